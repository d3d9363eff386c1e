/- Texts that lead to the law SkipReads, joined. -/
import Derived.Test.YtepneflbhpidbaaGreatDoorPkSkipReadsD
import Derived.Test.YtepneflbhpidbaaGreatDoorPkSkipReadsA
import Derived.Test.YtepneflbhpidbaaGreatDoorPkSkipReadsXAbB
import Derived.Test.YtepneflbhpidbaaGreatDoorPkSkipReadsC
import Derived.Test.YtepneflbhpidbaaGreatDoorPkSkipReadsB
namespace Go.Proofs.YtepneflbhpidbaaGreatDoor
set_option maxRecDepth 100000
set_option maxHeartbeats 6400000
open Go.RowKit
set_option linter.unusedVariables false
set_option linter.unusedSimpArgs false
section
attribute [local go_sem] opx opE ev okx gcond bnd okO AV.get AV.okb cAV upd_at putd_some putd_none wrs_nil wrs_cons look_nil look_cons st argT_at bpick_and bpick_or bpick_true bpick_false binV binI binS binVOk binOk isShift binSOk unV unVOk loadV loadP cellsA zeroA Blkd.len setE grown moreA moreR moreOk eqRes pv fillA fillE putSeg AV.cellish AV.pureL AV.pureB lentL_is ex_some AV.ren AV.renL renL_c Blkd.ren rho wrM renN lentOk rhoE keepM endOk tyA_2 tyA_3 tyA_4 tyA_5 tyA_6 tyA_7 tyA_8 tyA_9 tyA_10 tyA_11 tyA_12 tyA_13 tyA_14 tyA_15 tyA_16 tyA_17 tyA_18 tyA_19 tyA_21 tyA_22 tyA_23 tyA_24 tyA_29 tyA_30 tyA_31 tyA_32 tyA_33 tyA_34 tyA_35 tyA_36 tyA_37 tyA_38 tyA_39 tyA_40 tyA_41 tyA_42 tyA_43 tyA_48 tyA_72 tyA_76 tyA_85 tyA_86 tyA_87 tyA_88 tyA_97 tyA_100 tyA_101 tyA_102 tyA_103 tyA_104 tyA_105 tyA_106 tyA_128 tyA_137 tyA_138 tyA_139 tyA_140 tyA_141 tyA_142 tyA_147 tyA_148 tyA_149 tyA_167 tyA_168 tyA_169 tyA_170 tyA_172 tyA_176 tyA_177 tyA_178 tyA_186 tyA_196 tyA_231 tyA_232 tyA_233 tyA_257 tyA_262 tyA_268 tyA_270 tyA_272 tyA_281 tyA_285 tyA_287 tyA_290 tyA_291 tyA_292 tyA_293 tyA_294 tyA_295 tyA_296 tyA_298 tyA_299 Option.map_some Option.map_none Option.getD_some Option.getD_none Option.bind_some Option.bind_none List.getElem?_cons_zero List.getElem?_cons_succ List.getElem?_nil List.getElem?_toArray List.length_cons List.length_nil List.length_map List.forall_mem_map List.map_cons List.map_nil List.drop_zero List.drop_succ_cons List.drop_nil List.take_zero List.take_succ_cons List.take_nil List.mem_cons List.not_mem_nil or_false forall_eq_or_imp forall_eq List.set_cons_zero List.set_cons_succ List.cons_append List.nil_append List.append_nil List.foldl_cons List.foldl_nil List.replicate_succ List.replicate_zero List.all_cons List.all_nil if_true if_false Bool.false_eq_true ne_eq not_false_eq_true not_true_eq_false true_and and_true and_self true_implies imp_self implies_true forall_const beq_self_eq_true Bool.and_true Bool.true_and Bool.and_false Bool.false_and Bool.or_true Bool.true_or Bool.or_false Bool.false_or Bool.not_true Bool.not_false Bool.not_eq_eq_eq_not intKindOf Value.oneCell' Int.toNat_natCast beq_true beq_false Bool.not_eq_true false_implies false_or true_or or_true Nat.zero_add Nat.add_zero decide_true decide_false Int.cast_ofNat_Int Int.toNat_zero Int.toNat_one eq_self

def byP (b : UInt8) : List PV := [.v (.int .u8 (b.toNat : Int))]
theorem bpvOk (l : List UInt8) : bytesOk (bytePV l) = True := eq_true (bytePV_ok l)
theorem rchar_told (c : Int) : Told Tryz.prog 247 [.c (.v (.int .i64 c))] (.c (.v (.bool (isChr c)))) := by
 obtain ⟨V, hV⟩ : ∃ V, V = isChr c := ⟨_, rfl⟩
 rw [← hV]
 have hv : V = ((decide (c ≥ 0) && decide (c ≤ 1114111)) && (decide (c < 55296) || decide (c > 57343))) := by
  rw [hV, isChr, Bool.eq_iff_iff]
  simp
  omega
 clear hV
 replace hv := Lib.hid hv
 refine VC.toldP ent_247 Tryz.func247 rfl Tryz.ntmps247 fun hb => ?_
 clear hb
 refine walkG ?_
 refine retX Tryz.results247 ?_
 rw [hv.out]
 exact .c _
theorem rput_told (c : Nat) (hc : c ≤ 1114111) : Told Tryz.prog 240 [.c (.v (.int .i64 (c : Int)))] (.c (.sl 1 (bytePV (uenc c)))) := by
 have hU : ∀ (z : Int) (n : Nat), z = (n : Int) → n < 256 → IntKind.u8.wrap z = ((n.toUInt8).toNat : Int) := fun z n h1 h2 => by
  rw [IntKind.wrap_u8, h1]
  simp
 have hQ : ∀ (a b : Nat), a ≤ 1114111 → IntKind.i64.wrap (Int.tdiv (a : Int) (b : Int)) = ((a / b : Nat) : Int) := fun a b h => by
  have e : Int.tdiv (a : Int) (b : Int) = ((a / b : Nat) : Int) := by simp [Int.tdiv]
  have := Nat.div_le_self a b
  rw [e]
  generalize a / b = q at this
  exact wrap64_id (by omega) (by omega)
 have hR : ∀ (a b : Nat), Int.tmod (a : Int) (b : Int) = ((a % b : Nat) : Int) := fun a b => by simp [Int.tmod]
 have hW : ∀ (k n : Nat), k + n < 256 → IntKind.u8.wrap (IntKind.i64.wrap ((k : Int) + (n : Int))) = (((k + n).toUInt8).toNat : Int) := fun k n h => by
  rw [wrap64_id (by omega) (by omega)]
  exact hU _ (k + n) (by omega) h
 have q1 := hQ c 64 hc
 have q2 := hQ c 4096 hc
 have q3 := hQ c 262144 hc
 have r1 := hR c 64
 have r2 := hR (c / 64) 64
 have r3 := hR (c / 4096) 64
 by_cases h1 : c < 128
 · have hE : uenc c = [c.toUInt8] := by rw [uenc, if_pos h1]
   have e1 : decide ((c : Int) < 128) = true := by simp; omega
   rw [hE]
   refine VC.toldP ent_240 Tryz.func240 rfl Tryz.ntmps240 fun hb => ?_
   clear hb
   refine walkBF (e1) ?_
   rw [hU (c : Int) c rfl (by omega)]
   refine retX Tryz.results240 ?_
   exact frz_rA (f := byP) (l := [c.toUInt8]) rfl rfl rfl (by simp [byP])
 have e1 : decide ((c : Int) < 128) = false := by simp; omega
 by_cases h2 : c < 2048
 · have hE : uenc c = [(192 + c / 64).toUInt8, (128 + c % 64).toUInt8] := by rw [uenc, if_neg h1, if_pos h2]
   have e2 : decide ((c : Int) < 2048) = true := by simp; omega
   rw [hE]
   refine VC.toldP ent_240 Tryz.func240 rfl Tryz.ntmps240 fun hb => ?_
   clear hb
   refine walkBF (And.intro e1 e2) ?_
   rw [show (64 : Int) = ((64 : Nat) : Int) from rfl, q1, r1, show (192 : Int) = ((192 : Nat) : Int) from rfl, show (128 : Int) = ((128 : Nat) : Int) from rfl, hW 192 _ (by omega), hW 128 _ (by omega)]
   refine retX Tryz.results240 ?_
   exact frz_rA (f := byP) (l := [(192 + c / 64).toUInt8, (128 + c % 64).toUInt8]) rfl rfl rfl (by simp [byP])
 have e2 : decide ((c : Int) < 2048) = false := by simp; omega
 by_cases h3 : c < 65536
 · have hE : uenc c = [(224 + c / 4096).toUInt8, (128 + c / 64 % 64).toUInt8, (128 + c % 64).toUInt8] := by rw [uenc, if_neg h1, if_neg h2, if_pos h3]
   have e3 : decide ((c : Int) < 65536) = true := by simp; omega
   rw [hE]
   refine VC.toldP ent_240 Tryz.func240 rfl Tryz.ntmps240 fun hb => ?_
   clear hb
   refine walkBF (And.intro e1 (And.intro e2 e3)) ?_
   rw [show (64 : Int) = ((64 : Nat) : Int) from rfl, show (4096 : Int) = ((4096 : Nat) : Int) from rfl, q1, q2, r1, r2, show (224 : Int) = ((224 : Nat) : Int) from rfl, show (128 : Int) = ((128 : Nat) : Int) from rfl, hW 224 _ (by omega), hW 128 (c / 64 % 64) (by omega), hW 128 (c % 64) (by omega)]
   refine retX Tryz.results240 ?_
   exact frz_rA (f := byP) (l := [(224 + c / 4096).toUInt8, (128 + c / 64 % 64).toUInt8, (128 + c % 64).toUInt8]) rfl rfl rfl (by simp [byP])
 · have hE : uenc c = [(240 + c / 262144).toUInt8, (128 + c / 4096 % 64).toUInt8, (128 + c / 64 % 64).toUInt8, (128 + c % 64).toUInt8] := by rw [uenc, if_neg h1, if_neg h2, if_neg h3]
   have e3 : decide ((c : Int) < 65536) = false := by simp; omega
   rw [hE]
   refine VC.toldP ent_240 Tryz.func240 rfl Tryz.ntmps240 fun hb => ?_
   clear hb
   refine walkBF (And.intro e1 (And.intro e2 e3)) ?_
   rw [show (64 : Int) = ((64 : Nat) : Int) from rfl, show (4096 : Int) = ((4096 : Nat) : Int) from rfl, show (262144 : Int) = ((262144 : Nat) : Int) from rfl, q1, q2, q3, r1, r2, r3, show (240 : Int) = ((240 : Nat) : Int) from rfl, show (128 : Int) = ((128 : Nat) : Int) from rfl, hW 240 _ (by omega), hW 128 (c / 64 % 64) (by omega), hW 128 (c % 64) (by omega), hW 128 (c / 4096 % 64) (by omega)]
   refine retX Tryz.results240 ?_
   exact frz_rA (f := byP) (l := [(240 + c / 262144).toUInt8, (128 + c / 4096 % 64).toUInt8, (128 + c / 64 % 64).toUInt8, (128 + c % 64).toUInt8]) rfl rfl rfl (by simp [byP])
theorem rstarts_told (b a : List UInt8) (hb1 : b.length ≤ 1000000) (ha1 : a.length ≤ 1000000) : Told Tryz.prog 248 [.c (.sl 1 (bytePV b)), .c (.sl 1 (bytePV a))] (.c (.v (.bool (a.isPrefixOf b)))) := by
 have la : (bytePV a).length = a.length := by simp [bytePV]
 have lb : (bytePV b).length = b.length := by simp [bytePV]
 have tb : (bytePV b).take a.length = bytePV (b.take a.length) := by simp [bytePV, List.map_take]
 by_cases h : a.length ≤ b.length
 · have hv : a.isPrefixOf b = (b.take a.length == a) := by
    rw [Bool.eq_iff_iff, List.isPrefixOf_iff_prefix, List.prefix_iff_eq_take, beq_iff_eq]
    exact ⟨fun e => e.symm, fun e => e.symm⟩
   have e1 : decide ((a.length : Int) ≤ (b.length : Int)) = true := by simp; omega
   have s1 : (⟨(b.take a.length).toArray⟩ : ByteArray).toList = b.take a.length := str_toList _
   have s2 : (⟨a.toArray⟩ : ByteArray).toList = a := str_toList _
   rw [hv]
   refine VC.toldP ent_248 Tryz.func248 rfl Tryz.ntmps248 fun hb => ?_
   clear hb
   (repeat (first | refine pass ?_ | refine VC.region (by rfl) (by rfl) ?_ | (refine AO.step fun K hK => ?_; simp only [la, lb, e1, tb, bytesOf_pv, bpvOk, bstr, s1, s2, go_sem, Int.reduceBEq, Int.reduceLE, Int.reduceLT, Int.reduceNeg, Nat.reduceAdd, Nat.reduceEqDiff, Nat.reduceLT, Nat.reduceLeDiff, Nat.reduceMul, Nat.reduceSub, reduceCtorEq, ↓reduceIte]; (first | refine gsel_skip ?_ | refine gsel_go ?_ | skip); (first | refine hK _ _ _ ?_ | refine ⟨by first | omega | exact ⟨_, rfl, rfl⟩ | exact fun _ => ⟨_, rfl, rfl⟩ | (intro h; simp only [la, lb, e1, tb, bytesOf_pv, bpvOk, bstr, s1, s2, h, true_and]; omega) | (clear hK; intro h; simp_all <;> omega), hK _ _ _ ?_⟩); clear hK K) | refine VC.draw mixP (by rfl) (by rfl) ?_ | refine ⟨okd_of (by kernel_rfl), ?_⟩ | refine BQ.other (by decide) ?_ | refine VC.seq ?_ | refine AO.nil ?_ | refine VC.block ?_))
   refine retX Tryz.results248 ?_
   exact .c _
 · have hv : a.isPrefixOf b = false := by
    rw [Bool.eq_false_iff]
    intro e
    exact h (List.isPrefixOf_iff_prefix.1 e).length_le
   have e1 : decide ((a.length : Int) ≤ (b.length : Int)) = false := by simp; omega
   rw [hv]
   refine VC.toldP ent_248 Tryz.func248 rfl Tryz.ntmps248 fun hb => ?_
   clear hb
   refine walkBF (And.intro la (And.intro lb e1)) ?_
   refine retX Tryz.results248 ?_
   exact .c _

inductive MQF {ι : Type} (l : ι → List (Nat × AV)) (hl : ι → List (Nat × Blkd)) (n : Nat) (Q : Exit → ASt → Prop) : Exit → ASt → Prop
 | normal {σ : ASt} (j : ι) (h : Weak σ (l j) (hl j) n) : MQF l hl n Q .normal σ
 | ret {σ : ASt} (h : Q .ret σ) : MQF l hl n Q .ret σ
 | exit {σ : ASt} {id : Nat} (h : Q (.exit id) σ) : MQF l hl n Q (.exit id) σ
instance pF1 {ι : Type} {lv : ι → List (Nat × AV)} {hl : ι → List (Nat × Blkd)} {n : Nat} {σ : ASt} {Q : Exit → ASt → Prop} : Pass (MQF lv hl n Q .ret σ) (Q .ret σ) := ⟨.ret⟩
instance pF2 {ι : Type} {lv : ι → List (Nat × AV)} {hl : ι → List (Nat × Blkd)} {n : Nat} {σ : ASt} {Q : Exit → ASt → Prop} {id : Nat} : Pass (MQF lv hl n Q (.exit id) σ) (Q (.exit id) σ) := ⟨.exit⟩
theorem VC.meetF {P : Program} {N : Nat} {σ : ASt} {Q : Exit → ASt → Prop} {x y : Code} {ι : Type} (l : ι → List (Nat × AV)) (hl : ι → List (Nat × Blkd)) (n : Nat) (h1 : VC P N x σ (MQF l hl n Q)) (h2 : ∀ j, VC P N y (st (l j) (hl j) n) Q) : VC P N x σ (SQ P N y Q) :=
 h1.mono fun e σ h => by
  cases h with
  | normal j h => exact .normal (VC.weak (l j) (hl j) n h (h2 j))
  | ret h => exact .ret h
  | exit h => exact .exit h

def sizesL : List Int := [0, 64, 4096, 262144]
def marksL : List Int := [0, 192, 224, 240]
def cvS (l : List UInt8) (n : Nat) : Nat → Int
 | 0 => if n = 1 then (bN l 0 : Int) else if n = 2 then ((bN l 0 : Int) - 192) * 64 else if n = 3 then ((bN l 0 : Int) - 224) * 4096 else ((bN l 0 : Int) - 240) * 262144
 | i + 1 => cvS l n i + ((bN l (i + 1) : Int) - 128) * ((64 ^ (n - 1 - (i + 1)) : Nat) : Int)
theorem cvS_end {l : List UInt8} {n : Nat} (h1 : 1 ≤ n) (h4 : n ≤ 4) : cvS l n (n - 1) = cvN l 0 n := by
 rcases (by omega : n = 1 ∨ n = 2 ∨ n = 3 ∨ n = 4) with rfl | rfl | rfl | rfl <;> simp [cvS, cvN]
theorem cvS_le {l : List UInt8} {n : Nat} (h1 : 1 ≤ n) (h4 : n ≤ 4) : ∀ i, i < n → -100000000 * ((i : Int) + 1) ≤ cvS l n i ∧ cvS l n i ≤ 100000000 * ((i : Int) + 1)
 | 0, _ => by
   have := bN_lt l 0
   unfold cvS
   split
   · omega
   · split
     · omega
     · split <;> omega
 | i + 1, h => by
   obtain ⟨a, b⟩ := cvS_le (l := l) h1 h4 i (by omega)
   have := bN_lt l (i + 1)
   have hp : 64 ^ (n - 1 - (i + 1)) ≤ 4096 := by
    have : n - 1 - (i + 1) ≤ 2 := by omega
    calc 64 ^ (n - 1 - (i + 1)) ≤ 64 ^ 2 := Nat.pow_le_pow_right (by omega) this
     _ = 4096 := rfl
   rw [cvS]
   generalize 64 ^ (n - 1 - (i + 1)) = p at hp ⊢
   have h1 : ((bN l (i + 1) : Int) - 128) * (p : Int) ≤ 128 * 4096 := by
    by_cases hs : (bN l (i + 1) : Int) - 128 ≤ 0
    · have := Int.mul_nonpos_of_nonpos_of_nonneg hs (by omega : (0 : Int) ≤ p)
      omega
    · exact Int.mul_le_mul (by omega) (by omega) (by omega) (by omega)
   have h2 : -(128 * 4096) ≤ ((bN l (i + 1) : Int) - 128) * (p : Int) := by
    have : (128 - (bN l (i + 1) : Int)) * (p : Int) ≤ 128 * 4096 := by
     by_cases hs : 128 - (bN l (i + 1) : Int) ≤ 0
     · have := Int.mul_nonpos_of_nonpos_of_nonneg hs (by omega : (0 : Int) ≤ p)
       omega
     · exact Int.mul_le_mul (by omega) (by omega) (by omega) (by omega)
    have e : (128 - (bN l (i + 1) : Int)) * (p : Int) = -(((bN l (i + 1) : Int) - 128) * (p : Int)) := by rw [← Int.neg_mul]; congr 1; omega
    omega
   have e : ((i + 1 : Nat) : Int) = (i : Int) + 1 := by omega
   rw [e]
   constructor <;> omega
theorem rwhole_told (m : List UInt8) (hbig : m.length ≤ 1000000) : Told Tryz.prog 239 [.c (.sl 1 (bytePV m))] (.c (.v (.int .i64 (wholeV m 0)))) := by
 have hlen : (bytePV m).length = m.length := by simp [bytePV]
 obtain ⟨V, hV⟩ : ∃ V, V = wholeV m 0 := ⟨_, rfl⟩
 rw [← hV]
 refine VC.toldP ent_239 Tryz.func239 rfl Tryz.ntmps239 fun hb => ?_
 clear hb
 (refine VC.seq ?_; (first | refine VC.region (by rfl) (by rfl) ?_ | refine VC.draw mixP (by rfl) (by rfl) ?_); (repeat (refine AO.step fun K hK => ?_; simp only [go_sem, Int.reduceBEq, Int.reduceLE, Int.reduceLT, Int.reduceNeg, Nat.reduceAdd, Nat.reduceEqDiff, Nat.reduceLT, Nat.reduceLeDiff, Nat.reduceMul, Nat.reduceSub, reduceCtorEq, ↓reduceIte]; (first | refine gsel_skip ?_ | refine gsel_go ?_ | skip); (first | refine hK _ _ _ ?_ | refine ⟨by first | omega | exact ⟨_, rfl, rfl⟩ | exact fun _ => ⟨_, rfl, rfl⟩ | (intro h; simp only [h, true_and]; omega) | (clear hK; intro h; simp_all <;> omega), hK _ _ _ ?_⟩); clear hK K)); refine AO.nil ?_; first | refine SQ.normal ?_ | refine ⟨okd_of (by kernel_rfl), SQ.normal ?_⟩)
 (refine VC.seq ?_; (first | refine VC.region (by rfl) (by rfl) ?_ | refine VC.draw mixP (by rfl) (by rfl) ?_); (repeat (refine AO.step fun K hK => ?_; simp only [go_sem, Int.reduceBEq, Int.reduceLE, Int.reduceLT, Int.reduceNeg, Nat.reduceAdd, Nat.reduceEqDiff, Nat.reduceLT, Nat.reduceLeDiff, Nat.reduceMul, Nat.reduceSub, reduceCtorEq, ↓reduceIte]; (first | refine gsel_skip ?_ | refine gsel_go ?_ | skip); (first | refine hK _ _ _ ?_ | refine ⟨by first | omega | exact ⟨_, rfl, rfl⟩ | exact fun _ => ⟨_, rfl, rfl⟩ | (intro h; simp only [h, true_and]; omega) | (clear hK; intro h; simp_all <;> omega), hK _ _ _ ?_⟩); clear hK K)); refine AO.nil ?_; first | refine SQ.normal ?_ | refine ⟨okd_of (by kernel_rfl), SQ.normal ?_⟩)
 (refine VC.seq ?_; (first | refine VC.region (by rfl) (by rfl) ?_ | refine VC.draw mixP (by rfl) (by rfl) ?_); (repeat (refine AO.step fun K hK => ?_; simp only [go_sem, Int.reduceBEq, Int.reduceLE, Int.reduceLT, Int.reduceNeg, Nat.reduceAdd, Nat.reduceEqDiff, Nat.reduceLT, Nat.reduceLeDiff, Nat.reduceMul, Nat.reduceSub, reduceCtorEq, ↓reduceIte]; (first | refine gsel_skip ?_ | refine gsel_go ?_ | skip); (first | refine hK _ _ _ ?_ | refine ⟨by first | omega | exact ⟨_, rfl, rfl⟩ | exact fun _ => ⟨_, rfl, rfl⟩ | (intro h; simp only [h, true_and]; omega) | (clear hK; intro h; simp_all <;> omega), hK _ _ _ ?_⟩); clear hK K)); refine AO.nil ?_; first | refine SQ.normal ?_ | refine ⟨okd_of (by kernel_rfl), SQ.normal ?_⟩)
 refine VC.frz [8, 24] [(0, .c (.sl 1 (bytePV m))), (3, .c (.sl 1 (sizesL.map iPV))), (4, .c (.sl 1 (marksL.map iPV)))] [] 400 ?_ ?_
 · simp only [WeakF, used_is, sc_any, sc_c, sc_pp, sc_ref, sc_row, sc_agg, sc_fn, ScL, some_imp, List.forall_mem_map, go_sem, Int.reduceBEq, Int.reduceLE, Int.reduceLT, Int.reduceNeg, Nat.reduceAdd, Nat.reduceEqDiff, Nat.reduceLT, Nat.reduceLeDiff, Nat.reduceMul, Nat.reduceSub, reduceCtorEq, ↓reduceIte]
   exact ⟨.same _, .row (B := ⟨true, 2, 1, [[.c (.v (.int .i64 0))], [.c (.v (.int .i64 64))], [.c (.v (.int .i64 4096))], [.c (.v (.int .i64 262144))]]⟩) (es := sizesL.map iPV) (by simp) rfl rfl rfl rfl,
    .row (B := ⟨true, 2, 1, [[.c (.v (.int .i64 0))], [.c (.v (.int .i64 192))], [.c (.v (.int .i64 224))], [.c (.v (.int .i64 240))]]⟩) (es := marksL.map iPV) (by simp) rfl rfl rfl rfl⟩
 refine walkG ?_
 refine VC.loop (ι := {n : Nat // 1 ≤ n ∧ n ≤ 5 ∧ ∀ k, 1 ≤ k → k < n → wtest m 0 k = false}) (fun q => [(0, .c (.sl 1 (bytePV m))), (3, .c (.sl 1 (sizesL.map iPV))), (4, .c (.sl 1 (marksL.map iPV))), (5, .c (.v (.int .i64 (q.1 : Int))))]) (fun _ => []) 800 (fun q => 5 - q.1)
  ⟨1, by omega, by omega, fun k h1 h2 => by omega⟩ ?_ ?_
 · exact weakZ
 rintro ⟨n, hn1, hn5, hno⟩
 simp only []
 refine walkGF (hlen) ?_
 refine VC.cond (by rfl) (by trivial) (fun hc => ?_) (fun hc => ?_)
 rotate_left
 · have hf : V = -1 := by
    have hend : n = 5 ∨ m.length < n := by
     simp at hc
     omega
    have hall : ∀ k, 1 ≤ k → k ≤ 4 → wtest m 0 k = false := fun k h1 h2 => by
     by_cases hk : k < n
     · exact hno k h1 hk
     · rcases wtest_long (l := m) (p := 0) (n := k) (by omega) with h | h
       · exact h
       · omega
    rw [hV]
    exact wtest_none (hall 1 (by omega) (by omega)) (hall 2 (by omega) (by omega)) (hall 3 (by omega) (by omega)) (hall 4 (by omega) (by omega))
   subst hf
   refine walkG ?_
   refine retX Tryz.results239 ?_
   exact .c _
 have hn4 : n ≤ 4 ∧ n ≤ m.length := by
  simp at hc
  omega
 clear hc
 have hp0 := pv_at (l := m) (i := 0) (by omega)
 have hb0 : ((byteAt m 0).toNat : Int) = (bN m 0 : Int) := rfl
 have hbl := bN_lt m 0
 rw [hb0] at hp0
 refine walkGF (hp0) ?_
 refine VC.meet [(0, .c (.sl 1 (bytePV m))), (3, .c (.sl 1 (sizesL.map iPV))), (4, .c (.sl 1 (marksL.map iPV))), (5, .c (.v (.int .i64 (n : Int)))), (6, .c (.v (.int .i64 (cvS m n 0))))] [] 2000 ?_ ?_
 · have hwb : IntKind.i64.wrap (bN m 0 : Int) = (bN m 0 : Int) := wrap64_id (by omega) (by omega)
   by_cases hn : n = 1
   · subst hn
     have hcv : cvS m 1 0 = (bN m 0 : Int) := by simp [cvS]
     rw [hcv]
     refine walkBF (hwb) ?_
     refine .normal ?_
     exact weakZF (hwb)
   · obtain ⟨mk, sz, hmk, hsz, hcv, hb1, hb2⟩ : ∃ mk sz : Int, (marksL.map iPV)[n - 1]? = some (iPV mk) ∧ (sizesL.map iPV)[n - 1]? = some (iPV sz) ∧ cvS m n 0 = ((bN m 0 : Int) - mk) * sz ∧ (0 ≤ mk ∧ mk ≤ 1000) ∧ (-1000000000 ≤ ((bN m 0 : Int) - mk) * sz ∧ ((bN m 0 : Int) - mk) * sz ≤ 1000000000) := by
      rcases (by omega : n = 2 ∨ n = 3 ∨ n = 4) with rfl | rfl | rfl
      · exact ⟨192, 64, rfl, rfl, by simp [cvS], by omega, by omega⟩
      · exact ⟨224, 4096, rfl, rfl, by simp [cvS], by omega, by omega⟩
      · exact ⟨240, 262144, rfl, rfl, by simp [cvS], by omega, by omega⟩
     rw [hcv]
     have hw1 : IntKind.i64.wrap ((n : Int) - 1) = ((n - 1 : Nat) : Int) := by rw [wrap64_id (by omega) (by omega)]; omega
     have hw2 : IntKind.i64.wrap ((bN m 0 : Int) - mk) = (bN m 0 : Int) - mk := wrap64_id (by omega) (by omega)
     have hw3 : IntKind.i64.wrap (((bN m 0 : Int) - mk) * sz) = ((bN m 0 : Int) - mk) * sz := wrap64_id (by omega) (by omega)
     have hml : (marksL.map iPV).length = 4 := rfl
     have hsl : (sizesL.map iPV).length = 4 := rfl
     refine VC.cond (by rfl) (by trivial) (fun hc4 => ?_) (fun hc4 => ?_)
     rotate_left
     · exact absurd hc4 (by simp; omega)
     refine walkGF (And.intro hp0 (And.intro hw1 (And.intro hmk (And.intro hsz (And.intro @iPV_eq (And.intro hwb (And.intro hw2 (And.intro hw3 (And.intro hml hsl))))))))) ?_
     refine .normal ?_
     exact weakZF (hw3)
 refine walkG ?_
 refine VC.loop (ι := {i : Nat // 1 ≤ i ∧ i ≤ n}) (fun q => [(0, .c (.sl 1 (bytePV m))), (3, .c (.sl 1 (sizesL.map iPV))), (4, .c (.sl 1 (marksL.map iPV))), (5, .c (.v (.int .i64 (n : Int)))), (6, .c (.v (.int .i64 (cvS m n (q.1 - 1))))), (7, .c (.v (.int .i64 (q.1 : Int))))]) (fun _ => []) 4000 (fun q => n - q.1)
  ⟨1, Nat.le_refl _, hn1⟩ ?_ ?_
 · simp only [Weak, eq_self, used_is, sc_any, sc_c, sc_pp, sc_ref, sc_row, sc_agg, sc_fn, ScL, some_imp, List.forall_mem_map, go_sem, Int.reduceBEq, Int.reduceLE, Int.reduceLT, Int.reduceNeg, Nat.reduceAdd, Nat.reduceEqDiff, Nat.reduceLT, Nat.reduceLeDiff, Nat.reduceMul, Nat.reduceSub, reduceCtorEq, ↓reduceIte]
   try simp
 rintro ⟨i, hi1, hin⟩
 simp only []
 refine walkG ?_
 refine VC.cond (by rfl) (by trivial) (fun hc => ?_) (fun hc => ?_)
 · have hlt : i < n := by simp at hc; omega
   have hw : IntKind.i64.wrap ((i : Int) + 1) = (i : Int) + 1 := wrap64_id (by omega) (by omega)
   refine walkGF (hw) ?_
   refine VC.loop (ι := {q : Nat × Nat // i + 1 ≤ q.1 ∧ q.1 ≤ n ∧ q.2 = 64 ^ (q.1 - (i + 1))}) (fun q => [(0, .c (.sl 1 (bytePV m))), (3, .c (.sl 1 (sizesL.map iPV))), (4, .c (.sl 1 (marksL.map iPV))), (5, .c (.v (.int .i64 (n : Int)))), (6, .c (.v (.int .i64 (cvS m n (i - 1))))), (7, .c (.v (.int .i64 (i : Int)))), (8, .c (.v (.int .i64 (q.1.2 : Int)))), (9, .c (.v (.int .i64 (q.1.1 : Int))))]) (fun _ => []) 6000 (fun q => n - q.1.1)
    ⟨(i + 1, 1), Nat.le_refl _, hlt, by simp⟩ ?_ ?_
   · simp only [Weak, eq_self, used_is, sc_any, sc_c, sc_pp, sc_ref, sc_row, sc_agg, sc_fn, ScL, some_imp, List.forall_mem_map, go_sem, Int.reduceBEq, Int.reduceLE, Int.reduceLT, Int.reduceNeg, Nat.reduceAdd, Nat.reduceEqDiff, Nat.reduceLT, Nat.reduceLeDiff, Nat.reduceMul, Nat.reduceSub, reduceCtorEq, ↓reduceIte]
     try exact cI (by omega)
   rintro ⟨⟨k, p⟩, hk1, hk2, hp⟩
   simp only [] at hk1 hk2 hp ⊢
   have hpl : p ≤ 4096 := by
    rw [hp]
    calc 64 ^ (k - (i + 1)) ≤ 64 ^ 2 := Nat.pow_le_pow_right (by omega) (by omega)
     _ = 4096 := rfl
   refine walkG ?_
   refine VC.cond (by rfl) (by trivial) (fun hc2 => ?_) (fun hc2 => ?_)
   · have hlk : k < n := by simp at hc2; omega
     have hwk : IntKind.i64.wrap ((k : Int) + 1) = (k : Int) + 1 := wrap64_id (by omega) (by omega)
     have hwp : IntKind.i64.wrap ((p : Int) * 64) = (p : Int) * 64 := wrap64_id (by omega) (by omega)
     refine walkGF (And.intro hwk hwp) ?_
     refine .next ⟨(k + 1, p * 64), by simp only []; omega, by simp only []; omega, by simp only []; rw [hp, show k + 1 - (i + 1) = (k - (i + 1)) + 1 by omega, Nat.pow_succ]⟩ ?_ (by simp only []; omega)
     refine weakX ?_
     exact ⟨cI (by omega), cI (by omega)⟩
   · have hke : k = n := by simp at hc2; omega
     subst hke
     have hpi := pv_at (l := m) (i := i) (by omega)
     have hbi : ((byteAt m i).toNat : Int) = (bN m i : Int) := rfl
     have hbil := bN_lt m i
     rw [hbi] at hpi
     have hwi : IntKind.i64.wrap (bN m i : Int) = (bN m i : Int) := wrap64_id (by omega) (by omega)
     have hw1 : IntKind.i64.wrap ((bN m i : Int) - 128) = (bN m i : Int) - 128 := wrap64_id (by omega) (by omega)
     have hcs : cvS m k i = cvS m k (i - 1) + ((bN m i : Int) - 128) * (p : Int) := by
      obtain ⟨j, rfl⟩ : ∃ j, i = j + 1 := ⟨i - 1, by omega⟩
      rw [cvS, hp, show j + 1 - 1 = j by omega, show k - 1 - (j + 1) = k - (j + 1 + 1) by omega]
     have hbd := cvS_le (l := m) hn1 (by omega) (i - 1) (by omega)
     have hbd2 := cvS_le (l := m) hn1 (by omega) i (by omega)
     rw [hcs] at hbd2
     have hw2 : IntKind.i64.wrap (((bN m i : Int) - 128) * (p : Int)) = ((bN m i : Int) - 128) * (p : Int) := wrap64_id (by omega) (by omega)
     have hw3 : IntKind.i64.wrap (cvS m k (i - 1) + ((bN m i : Int) - 128) * (p : Int)) = cvS m k (i - 1) + ((bN m i : Int) - 128) * (p : Int) := wrap64_id (by omega) (by omega)
     refine walkGF (And.intro hpi (And.intro hwi (And.intro hw1 (And.intro hw2 (And.intro hw3 hw))))) ?_
     refine .next ⟨i + 1, by omega, by omega⟩ ?_ (by simp only []; omega)
     refine weakXF (hcs) ?_
     refine ⟨?_, cI (by omega)⟩
     rw [show i + 1 - 1 = i by omega, hcs]
 · have hie : i = n := by simp at hc; omega
   subst hie
   rw [cvS_end hn1 hn4.1]
   have hC := rchar_told (cvN m 0 i)
   by_cases hch : isChr (cvN m 0 i) = true
   rotate_left
   · have hch : isChr (cvN m 0 i) = false := by simpa using hch
     rw [hch] at hC
     have ht : wtest m 0 i = false := by rw [wtest, hch]; rfl
     have hw : IntKind.i64.wrap ((i : Int) + 1) = (i : Int) + 1 := wrap64_id (by omega) (by omega)
     refine walkG ?_
     refine walkC (hC) ?_
     refine walkBF (hw) ?_
     refine .next ⟨i + 1, by omega, by omega, notest hno ht⟩ ?_ (by simp only []; omega)
     refine weakX ?_
     exact cI (by omega)
   · have hci := isChr_iff.1 hch
     rw [hch] at hC
     obtain ⟨c, hcc⟩ : ∃ c : Nat, cvN m 0 i = (c : Int) := ⟨(cvN m 0 i).toNat, by omega⟩
     have hw : IntKind.i64.wrap ((i : Int) + 1) = (i : Int) + 1 := wrap64_id (by omega) (by omega)
     have ht : wtest m 0 i = (((uenc c).length == i) && (uenc c).isPrefixOf m) := by rw [wtest, hch, hcc]; simp
     have hVn := fun h : wtest m 0 i = true => wtest_n (l := m) (p := 0) h
     rw [← hV, hcc] at hVn
     rw [hcc] at hC ⊢
     have hP := rput_told c (by omega)
     have hul := uenc_len c
     have hS := rstarts_told m (uenc c) hbig (by omega)
     have hpl : (bytePV (uenc c)).length = (uenc c).length := by simp [bytePV]
     obtain ⟨b, hb⟩ : ∃ b, b = (uenc c).isPrefixOf m := ⟨_, rfl⟩
     rw [← hb] at hS ht
     refine walkG ?_
     refine walkC (hC) ?_
     refine walkG ?_
     refine walkC (hP) ?_
     refine walkGF (hpl) ?_
     refine walkD (hP) ?_
     refine walkGF (hpl) ?_
     refine walkD (hS) ?_
     refine walkG ?_
     refine VC.cond (by rfl) (by trivial) (fun hc3 => ?_) (fun hc3 => ?_)
     · have ht1 : wtest m 0 i = true := by
        rw [ht]
        simp at hc3 ⊢
        exact ⟨by omega, hc3.2⟩
       obtain rfl : V = (c : Int) := hVn ht1
       refine walkG ?_
       refine retX Tryz.results239 ?_
       exact .c _
     · have ht1 : wtest m 0 i = false := by
        rw [ht]
        simp at hc3 ⊢
        intro h1
        exact hc3 (by omega)
       refine walkGF (hw) ?_
       refine .next ⟨i + 1, by omega, by omega, notest hno ht1⟩ ?_ (by simp only []; omega)
       refine weakX ?_
       exact cI (by omega)
def begB (m : List UInt8) (j : Nat) : Bool := decide (0 ≤ wholeV (m ++ fillL j) 0) && decide (m.length < (uenc (wholeV (m ++ fillL j) 0).toNat).length)
theorem rbegun_told (m : List UInt8) (hbig : m.length ≤ 1000) : ∃ b, Told Tryz.prog 241 [.c (.sl 1 (bytePV m))] (.c (.v (.bool b))) := by
 have hlen : (bytePV m).length = m.length := by simp [bytePV]
 by_cases h0 : m.length = 0
 · refine ⟨true, ?_⟩
   have e0 : ((m.length : Int) == 0) = true := by rw [h0]; rfl
   refine VC.toldP ent_241 Tryz.func241 rfl Tryz.ntmps241 fun hb => ?_
   clear hb
   refine walkBF (And.intro hlen e0) ?_
   refine retX Tryz.results241 ?_
   exact .c _
 have e0 : ((m.length : Int) == 0) = false := beq_eq_false_iff_ne.2 (by omega)
 obtain ⟨V, hV⟩ : ∃ V, V = (List.range 6).any (begB m) := ⟨_, rfl⟩
 refine ⟨V, ?_⟩
 refine VC.toldP ent_241 Tryz.func241 rfl Tryz.ntmps241 fun hb => ?_
 clear hb
 refine walkBF (And.intro hlen e0) ?_
 refine VC.frz [32] [(0, .c (.sl 1 (bytePV m))), (3, .row 80 6), (4, .c (.v (.int .i64 0)))] [(40, ⟨true, 5, 1, [[.c (.v (.int .u8 191))], [.c (.v (.int .u8 191))], [.c (.v (.int .u8 191))]]⟩), (48, ⟨true, 5, 1, [[.c (.v (.int .u8 160))], [.c (.v (.int .u8 128))], [.c (.v (.int .u8 128))]]⟩), (56, ⟨true, 5, 1, [[.c (.v (.int .u8 144))], [.c (.v (.int .u8 128))], [.c (.v (.int .u8 128))]]⟩), (64, ⟨true, 5, 1, [[.c (.v (.int .u8 143))], [.c (.v (.int .u8 191))], [.c (.v (.int .u8 191))]]⟩), (72, ⟨true, 5, 1, [[.c (.v (.int .u8 159))], [.c (.v (.int .u8 191))], [.c (.v (.int .u8 191))]]⟩), (80, ⟨true, 40, 1, [[.c (.sl 1 (bytePV (fillL 0)))], [.row 40 3], [.row 48 3], [.row 56 3], [.row 64 3], [.row 72 3]]⟩)] 400 ?_ ?_
 · simp only [WeakF, used_is, sc_any, sc_c, sc_pp, sc_ref, sc_row, sc_agg, sc_fn, ScL, some_imp, List.forall_mem_map, go_sem, Int.reduceBEq, Int.reduceLE, Int.reduceLT, Int.reduceNeg, Nat.reduceAdd, Nat.reduceEqDiff, Nat.reduceLT, Nat.reduceLeDiff, Nat.reduceMul, Nat.reduceSub, reduceCtorEq, ↓reduceIte]
   exact ⟨⟨.same _, .same _, .same _⟩, .same _, .same _, .same _, .same _, .same _, .set (i := 0) (e' := [.c (.sl 1 (bytePV (fillL 0)))]) rfl (.cons (.row (B := ⟨true, 5, 1, [[.c (.v (.int .u8 128))], [.c (.v (.int .u8 128))], [.c (.v (.int .u8 128))]]⟩) (es := bytePV (fillL 0)) (by simp) rfl rfl rfl rfl) .nil) (by simp [AV.cellish])⟩
 refine VC.frz [40] [(0, .c (.sl 1 (bytePV m))), (3, .row 80 6), (4, .c (.v (.int .i64 0)))] [(48, ⟨true, 5, 1, [[.c (.v (.int .u8 160))], [.c (.v (.int .u8 128))], [.c (.v (.int .u8 128))]]⟩), (56, ⟨true, 5, 1, [[.c (.v (.int .u8 144))], [.c (.v (.int .u8 128))], [.c (.v (.int .u8 128))]]⟩), (64, ⟨true, 5, 1, [[.c (.v (.int .u8 143))], [.c (.v (.int .u8 191))], [.c (.v (.int .u8 191))]]⟩), (72, ⟨true, 5, 1, [[.c (.v (.int .u8 159))], [.c (.v (.int .u8 191))], [.c (.v (.int .u8 191))]]⟩), (80, ⟨true, 40, 1, [[.c (.sl 1 (bytePV (fillL 0)))], [.c (.sl 1 (bytePV (fillL 1)))], [.row 48 3], [.row 56 3], [.row 64 3], [.row 72 3]]⟩)] 400 ?_ ?_
 · simp only [WeakF, used_is, sc_any, sc_c, sc_pp, sc_ref, sc_row, sc_agg, sc_fn, ScL, some_imp, List.forall_mem_map, go_sem, Int.reduceBEq, Int.reduceLE, Int.reduceLT, Int.reduceNeg, Nat.reduceAdd, Nat.reduceEqDiff, Nat.reduceLT, Nat.reduceLeDiff, Nat.reduceMul, Nat.reduceSub, reduceCtorEq, ↓reduceIte]
   exact ⟨⟨.same _, .same _, .same _⟩, .same _, .same _, .same _, .same _, .set (i := 1) (e' := [.c (.sl 1 (bytePV (fillL 1)))]) rfl (.cons (.row (B := ⟨true, 5, 1, [[.c (.v (.int .u8 191))], [.c (.v (.int .u8 191))], [.c (.v (.int .u8 191))]]⟩) (es := bytePV (fillL 1)) (by simp) rfl rfl rfl rfl) .nil) (by simp [AV.cellish])⟩
 refine VC.frz [48] [(0, .c (.sl 1 (bytePV m))), (3, .row 80 6), (4, .c (.v (.int .i64 0)))] [(56, ⟨true, 5, 1, [[.c (.v (.int .u8 144))], [.c (.v (.int .u8 128))], [.c (.v (.int .u8 128))]]⟩), (64, ⟨true, 5, 1, [[.c (.v (.int .u8 143))], [.c (.v (.int .u8 191))], [.c (.v (.int .u8 191))]]⟩), (72, ⟨true, 5, 1, [[.c (.v (.int .u8 159))], [.c (.v (.int .u8 191))], [.c (.v (.int .u8 191))]]⟩), (80, ⟨true, 40, 1, [[.c (.sl 1 (bytePV (fillL 0)))], [.c (.sl 1 (bytePV (fillL 1)))], [.c (.sl 1 (bytePV (fillL 2)))], [.row 56 3], [.row 64 3], [.row 72 3]]⟩)] 400 ?_ ?_
 · simp only [WeakF, used_is, sc_any, sc_c, sc_pp, sc_ref, sc_row, sc_agg, sc_fn, ScL, some_imp, List.forall_mem_map, go_sem, Int.reduceBEq, Int.reduceLE, Int.reduceLT, Int.reduceNeg, Nat.reduceAdd, Nat.reduceEqDiff, Nat.reduceLT, Nat.reduceLeDiff, Nat.reduceMul, Nat.reduceSub, reduceCtorEq, ↓reduceIte]
   exact ⟨⟨.same _, .same _, .same _⟩, .same _, .same _, .same _, .set (i := 2) (e' := [.c (.sl 1 (bytePV (fillL 2)))]) rfl (.cons (.row (B := ⟨true, 5, 1, [[.c (.v (.int .u8 160))], [.c (.v (.int .u8 128))], [.c (.v (.int .u8 128))]]⟩) (es := bytePV (fillL 2)) (by simp) rfl rfl rfl rfl) .nil) (by simp [AV.cellish])⟩
 refine VC.frz [56] [(0, .c (.sl 1 (bytePV m))), (3, .row 80 6), (4, .c (.v (.int .i64 0)))] [(64, ⟨true, 5, 1, [[.c (.v (.int .u8 143))], [.c (.v (.int .u8 191))], [.c (.v (.int .u8 191))]]⟩), (72, ⟨true, 5, 1, [[.c (.v (.int .u8 159))], [.c (.v (.int .u8 191))], [.c (.v (.int .u8 191))]]⟩), (80, ⟨true, 40, 1, [[.c (.sl 1 (bytePV (fillL 0)))], [.c (.sl 1 (bytePV (fillL 1)))], [.c (.sl 1 (bytePV (fillL 2)))], [.c (.sl 1 (bytePV (fillL 3)))], [.row 64 3], [.row 72 3]]⟩)] 400 ?_ ?_
 · simp only [WeakF, used_is, sc_any, sc_c, sc_pp, sc_ref, sc_row, sc_agg, sc_fn, ScL, some_imp, List.forall_mem_map, go_sem, Int.reduceBEq, Int.reduceLE, Int.reduceLT, Int.reduceNeg, Nat.reduceAdd, Nat.reduceEqDiff, Nat.reduceLT, Nat.reduceLeDiff, Nat.reduceMul, Nat.reduceSub, reduceCtorEq, ↓reduceIte]
   exact ⟨⟨.same _, .same _, .same _⟩, .same _, .same _, .set (i := 3) (e' := [.c (.sl 1 (bytePV (fillL 3)))]) rfl (.cons (.row (B := ⟨true, 5, 1, [[.c (.v (.int .u8 144))], [.c (.v (.int .u8 128))], [.c (.v (.int .u8 128))]]⟩) (es := bytePV (fillL 3)) (by simp) rfl rfl rfl rfl) .nil) (by simp [AV.cellish])⟩
 refine VC.frz [64] [(0, .c (.sl 1 (bytePV m))), (3, .row 80 6), (4, .c (.v (.int .i64 0)))] [(72, ⟨true, 5, 1, [[.c (.v (.int .u8 159))], [.c (.v (.int .u8 191))], [.c (.v (.int .u8 191))]]⟩), (80, ⟨true, 40, 1, [[.c (.sl 1 (bytePV (fillL 0)))], [.c (.sl 1 (bytePV (fillL 1)))], [.c (.sl 1 (bytePV (fillL 2)))], [.c (.sl 1 (bytePV (fillL 3)))], [.c (.sl 1 (bytePV (fillL 4)))], [.row 72 3]]⟩)] 400 ?_ ?_
 · simp only [WeakF, used_is, sc_any, sc_c, sc_pp, sc_ref, sc_row, sc_agg, sc_fn, ScL, some_imp, List.forall_mem_map, go_sem, Int.reduceBEq, Int.reduceLE, Int.reduceLT, Int.reduceNeg, Nat.reduceAdd, Nat.reduceEqDiff, Nat.reduceLT, Nat.reduceLeDiff, Nat.reduceMul, Nat.reduceSub, reduceCtorEq, ↓reduceIte]
   exact ⟨⟨.same _, .same _, .same _⟩, .same _, .set (i := 4) (e' := [.c (.sl 1 (bytePV (fillL 4)))]) rfl (.cons (.row (B := ⟨true, 5, 1, [[.c (.v (.int .u8 143))], [.c (.v (.int .u8 191))], [.c (.v (.int .u8 191))]]⟩) (es := bytePV (fillL 4)) (by simp) rfl rfl rfl rfl) .nil) (by simp [AV.cellish])⟩
 refine VC.frz [72] [(0, .c (.sl 1 (bytePV m))), (3, .row 80 6), (4, .c (.v (.int .i64 0)))] [(80, ⟨true, 40, 1, [[.c (.sl 1 (bytePV (fillL 0)))], [.c (.sl 1 (bytePV (fillL 1)))], [.c (.sl 1 (bytePV (fillL 2)))], [.c (.sl 1 (bytePV (fillL 3)))], [.c (.sl 1 (bytePV (fillL 4)))], [.c (.sl 1 (bytePV (fillL 5)))]]⟩)] 400 ?_ ?_
 · simp only [WeakF, used_is, sc_any, sc_c, sc_pp, sc_ref, sc_row, sc_agg, sc_fn, ScL, some_imp, List.forall_mem_map, go_sem, Int.reduceBEq, Int.reduceLE, Int.reduceLT, Int.reduceNeg, Nat.reduceAdd, Nat.reduceEqDiff, Nat.reduceLT, Nat.reduceLeDiff, Nat.reduceMul, Nat.reduceSub, reduceCtorEq, ↓reduceIte]
   exact ⟨⟨.same _, .same _, .same _⟩, .set (i := 5) (e' := [.c (.sl 1 (bytePV (fillL 5)))]) rfl (.cons (.row (B := ⟨true, 5, 1, [[.c (.v (.int .u8 159))], [.c (.v (.int .u8 191))], [.c (.v (.int .u8 191))]]⟩) (es := bytePV (fillL 5)) (by simp) rfl rfl rfl rfl) .nil) (by simp [AV.cellish])⟩
 refine VC.frz [80] [(0, .c (.sl 1 (bytePV m))), (3, .c (.sl 1 ((List.range 6).map fun j => [PV.sl 1 (bytePV (fillL j))]))), (4, .c (.v (.int .i64 0)))] [] 400 ?_ ?_
 · simp only [WeakF, used_is, sc_any, sc_c, sc_pp, sc_ref, sc_row, sc_agg, sc_fn, ScL, some_imp, List.forall_mem_map, go_sem, Int.reduceBEq, Int.reduceLE, Int.reduceLT, Int.reduceNeg, Nat.reduceAdd, Nat.reduceEqDiff, Nat.reduceLT, Nat.reduceLeDiff, Nat.reduceMul, Nat.reduceSub, reduceCtorEq, ↓reduceIte]
   exact ⟨.same _, .row (B := ⟨true, 40, 1, [[.c (.sl 1 (bytePV (fillL 0)))], [.c (.sl 1 (bytePV (fillL 1)))], [.c (.sl 1 (bytePV (fillL 2)))], [.c (.sl 1 (bytePV (fillL 3)))], [.c (.sl 1 (bytePV (fillL 4)))], [.c (.sl 1 (bytePV (fillL 5)))]]⟩) (es := (List.range 6).map fun j => [PV.sl 1 (bytePV (fillL j))]) (by simp) rfl rfl rfl rfl, .same _⟩
 have hFx : ∀ i, i < 6 → ((List.range 6).map fun j => [PV.sl 1 (bytePV (fillL j))])[i]? = some [PV.sl 1 (bytePV (fillL i))] := fun i hlt => by rw [List.getElem?_map, List.getElem?_range hlt]; rfl
 have hrl : ((List.range 6).map fun j => [PV.sl 1 (bytePV (fillL j))]).length = 6 := rfl
 generalize ((List.range 6).map fun j => [PV.sl 1 (bytePV (fillL j))]) = F at hFx hrl ⊢
 refine VC.loop (ι := {i : Nat // i ≤ 6 ∧ ∀ j, j < i → begB m j = false}) (fun q => [(0, .c (.sl 1 (bytePV m))), (3, .c (.sl 1 F)), (4, .c (.v (.int .i64 (q.1 : Int))))]) (fun _ => []) 800 (fun q => 6 - q.1)
  ⟨0, by omega, fun j h => by omega⟩ ?_ ?_
 · exact weakZ
 rintro ⟨i, hi, hno⟩
 simp only []
 refine walkGF (hrl) ?_
 refine VC.cond (by rfl) (by trivial) (fun hc => ?_) (fun hc => ?_)
 · have hlt : i < 6 := by simp at hc; omega
   have hw : IntKind.i64.wrap ((i : Int) + 1) = (i : Int) + 1 := wrap64_id (by omega) (by omega)
   have hx : F[i]? = some [PV.sl 1 (bytePV (fillL i))] := hFx i hlt
   have hfl : (bytePV (fillL i)).length = 3 := by simp [bytePV, fillL_len]
   have hW := rwhole_told (m ++ fillL i) (by simp [fillL_len]; omega)
   have hB : begB m i = (decide (0 ≤ wholeV (m ++ fillL i) 0) && decide (m.length < (uenc (wholeV (m ++ fillL i) 0).toNat).length)) := rfl
   have hch := fun h : 0 ≤ wholeV (m ++ fillL i) 0 => isChr_iff.1 (wholeV_len h).2.1
   obtain ⟨z, hz⟩ : ∃ z, z = wholeV (m ++ fillL i) 0 := ⟨_, rfl⟩
   rw [← hz] at hW hB hch
   (repeat (first | refine pass ?_ | refine VC.region (by rfl) (by rfl) ?_ | (refine AO.step fun K hK => ?_; simp only [hrl, hx, hfl, hlen, List.length_map, List.length_append, go_sem, Int.reduceBEq, Int.reduceLE, Int.reduceLT, Int.reduceNeg, Nat.reduceAdd, Nat.reduceEqDiff, Nat.reduceLT, Nat.reduceLeDiff, Nat.reduceMul, Nat.reduceSub, reduceCtorEq, ↓reduceIte]; (first | refine gsel_skip ?_ | refine gsel_go ?_ | skip); (first | refine hK _ _ _ ?_ | refine ⟨by first | omega | exact ⟨_, rfl, rfl⟩ | exact fun _ => ⟨_, rfl, rfl⟩ | (intro h; simp only [hrl, hx, hfl, hlen, List.length_map, List.length_append, h, true_and]; omega) | (clear hK; intro h; simp_all <;> omega), hK _ _ _ ?_⟩); clear hK K) | refine VC.draw mixP (by rfl) (by rfl) ?_ | refine ⟨okd_of (by kernel_rfl), ?_⟩ | refine BQ.other (by decide) ?_ | refine VC.seq ?_ | refine AO.nil ?_ | refine VC.block ?_))
   (refine AO.step fun K hK => ?_; simp only [go_sem, Int.reduceBEq, Int.reduceLE, Int.reduceLT, Int.reduceNeg, Nat.reduceAdd, Nat.reduceEqDiff, Nat.reduceLT, Nat.reduceLeDiff, Nat.reduceMul, Nat.reduceSub, reduceCtorEq, ↓reduceIte]; (first | refine gsel_go ?_ | skip))
   refine .inr (.inl ⟨.c (.v (.int .i64 z)), [.c (.sl 1 (bytePV (m ++ fillL i)))], [832], ⟨by simp [AV.pureL, AV.pureB], rfl, fun k x z h5 h6 => ?_, rfl, hW⟩, hK _ _ _ ?_⟩)
   · match k with
     | 0 =>
       obtain rfl := Option.some.inj h5
       obtain rfl := Option.some.inj h6
       exact View.row (B := ⟨true, 5, 1, (bytePV m).map (fun e => e.map AV.c) ++ (bytePV (fillL i)).map fun e => e.map AV.c⟩) (es := bytePV (m ++ fillL i)) rfl rfl (by simp [Blkd.len, bytePV, fillL_len]) (by simp [bytePV])
     | k + 1 => simp at h5
   clear hK K
   by_cases hz0 : 0 ≤ z
   · obtain ⟨c, rfl⟩ : ∃ c : Nat, z = (c : Int) := ⟨z.toNat, by omega⟩
     have hP := rput_told c (by have := hch hz0; omega)
     have e1 : decide ((c : Int) ≥ 0) = true := by simp
     have hul : (bytePV (uenc c)).length = (uenc c).length := by simp [bytePV]
     rw [Int.toNat_natCast] at hB
     refine walkGF (e1) ?_
     refine walkC (hP) ?_
     refine walkGF (And.intro hul hlen) ?_
     refine VC.cond (by rfl) (by trivial) (fun hc2 => ?_) (fun hc2 => ?_)
     · have hf : V = true := by
        have : begB m i = true := by rw [hB]; simp at hc2 ⊢; omega
        rw [hV, List.any_eq_true]
        exact ⟨i, List.mem_range.2 hlt, this⟩
       subst hf
       refine walkG ?_
       refine retX Tryz.results241 ?_
       exact .c _
     · have : begB m i = false := by rw [hB]; simp at hc2 ⊢; omega
       refine walkGF (hw) ?_
       refine .next ⟨i + 1, by omega, fun j hj => ?_⟩ ?_ (by simp only []; omega)
       · by_cases hji : j < i
         · exact hno j hji
         · obtain rfl : j = i := by omega
           exact this
       refine weakX ?_
       exact cI (by omega)
   · have e1 : decide (z ≥ 0) = false := by simp; omega
     have : begB m i = false := by rw [hB]; simp; omega
     refine walkBF (And.intro e1 hw) ?_
     refine .next ⟨i + 1, by omega, fun j hj => ?_⟩ ?_ (by simp only []; omega)
     · by_cases hji : j < i
       · exact hno j hji
       · obtain rfl : j = i := by omega
         exact this
     refine weakX ?_
     exact cI (by omega)
 · have hf : V = false := by
    rw [hV, List.any_eq_false]
    intro j hj
    have := List.mem_range.1 hj
    rw [hno j (by simp at hc; omega)]
    simp
   subst hf
   refine walkG ?_
   refine retX Tryz.results241 ?_
   exact .c _
theorem rtake3_told (l : List UInt8) (p : Nat) (hp : p ≤ l.length) (hbig : l.length ≤ 1000000) : ∃ v nx e : Int, Told Tryz.prog 226 [.c (.sl 1 (bytePV l)), .c (.v (.int .i64 (p : Int)))] (.tup [.c (.v (.int .i64 v)), .c (.v (.int .i64 nx)), .c (.v (.int .i64 e))]) ∧
  (uerr l p = 0 → e = 0 ∧ nx = (p : Int) + (ulen l p : Int)) ∧ (uerr l p ≠ 0 → e ≠ 0) := by
 have hlen : (bytePV l).length = l.length := by simp [bytePV]
 have hdr : ((bytePV l).take l.length).drop p = bytePV (l.drop p) := by rw [← hlen, List.take_length]; simp [bytePV, List.map_drop]
 have hW := rwhole_told (l.drop p) (by simp; omega)
 rw [wholeV_drop] at hW
 have e1 : decide ((p : Int) < 0) = false := by simp
 have e2 : decide ((p : Int) > (l.length : Int)) = false := by simp; omega
 obtain ⟨z, hz⟩ : ∃ z, z = wholeV l p := ⟨_, rfl⟩
 rw [← hz] at hW
 have hdl : (bytePV (l.drop p)).length = l.length - p := by simp [bytePV]
 by_cases hz0 : 0 ≤ z
 · obtain ⟨u1, u2, u3⟩ := wholeV_len (l := l) (p := p) (by omega)
   have hci := isChr_iff.1 u2
   obtain ⟨c, rfl⟩ : ∃ c : Nat, z = (c : Int) := ⟨z.toNat, by omega⟩
   rw [← hz] at u2 u3 hci
   rw [Int.toNat_natCast] at u3
   have hP := rput_told c (by omega)
   have e3 : decide ((c : Int) ≥ 0) = true := by simp
   have hul : (bytePV (uenc c)).length = (uenc c).length := by simp [bytePV]
   have hlb := uenc_len c
   have hw : IntKind.i64.wrap ((p : Int) + ((uenc c).length : Int)) = (p : Int) + ((uenc c).length : Int) := wrap64_id (by omega) (by omega)
   refine ⟨(c : Int), (p : Int) + ((uenc c).length : Int), 0, ?_, fun _ => ⟨rfl, by rw [u3]⟩, fun h => absurd u1 h⟩
   refine VC.toldP ent_226 Tryz.func226 rfl Tryz.ntmps226 fun hb => ?_
   clear hb
   refine walkBF (And.intro hlen (And.intro e1 (And.intro e2 hdr))) ?_
   refine walkC (hW) ?_
   refine walkBF (e3) ?_
   refine walkC (hP) ?_
   refine walkGF (And.intro hul hw) ?_
   refine retX Tryz.results226 ?_
   exact ⟨.c _, .c _, .c _⟩
 · have hu : uerr l p ≠ 0 := by
    intro h
    have hf := uerr_form h
    have := wtest_n (form_test hf)
    have h2 := (isChr_iff (c := cvN l p (ulen l p))).1 (by
     have ht := form_test hf
     unfold wtest at ht
     simp only [Bool.and_eq_true] at ht
     exact ht.1)
    omega
   have e3 : decide (z ≥ 0) = false := by simp; omega
   have hws : IntKind.i64.wrap ((l.length : Int) - (p : Int)) = (l.length : Int) - (p : Int) := wrap64_id (by omega) (by omega)
   by_cases h4 : l.length - p < 4
   · have e4 : decide ((l.length : Int) - (p : Int) < 4) = true := by simp; omega
     obtain ⟨b, hB⟩ := rbegun_told (l.drop p) (by simp; omega)
     cases b with
     | true =>
       refine ⟨0, (p : Int), 10, ?_, fun h => absurd h hu, fun _ => by decide⟩
       refine VC.toldP ent_226 Tryz.func226 rfl Tryz.ntmps226 fun hb => ?_
       clear hb
       refine walkBF (And.intro hlen (And.intro e1 (And.intro e2 hdr))) ?_
       refine walkC (hW) ?_
       refine walkBF (And.intro e3 (And.intro hws (And.intro e4 (And.intro hlen hdr)))) ?_
       refine walkC (hB) ?_
       refine walkB ?_
       refine retX Tryz.results226 ?_
       exact ⟨.c _, .c _, .c _⟩
     | false =>
       refine ⟨0, (p : Int), 11, ?_, fun h => absurd h hu, fun _ => by decide⟩
       refine VC.toldP ent_226 Tryz.func226 rfl Tryz.ntmps226 fun hb => ?_
       clear hb
       refine walkBF (And.intro hlen (And.intro e1 (And.intro e2 hdr))) ?_
       refine walkC (hW) ?_
       refine walkBF (And.intro e3 (And.intro hws (And.intro e4 (And.intro hlen hdr)))) ?_
       refine walkC (hB) ?_
       refine walkB ?_
       refine retX Tryz.results226 ?_
       exact ⟨.c _, .c _, .c _⟩
   · have e4 : decide ((l.length : Int) - (p : Int) < 4) = false := by simp; omega
     refine ⟨0, (p : Int), 11, ?_, fun h => absurd h hu, fun _ => by decide⟩
     refine VC.toldP ent_226 Tryz.func226 rfl Tryz.ntmps226 fun hb => ?_
     clear hb
     refine walkBF (And.intro hlen (And.intro e1 (And.intro e2 hdr))) ?_
     refine walkC (hW) ?_
     refine walkBF (And.intro e3 (And.intro hws (And.intro e4 hlen))) ?_
     refine retX Tryz.results226 ?_
     exact ⟨.c _, .c _, .c _⟩
theorem rcount3_told (l : List UInt8) (hbig : l.length ≤ 1000000) : ∃ z : Int, Told Tryz.prog 204 [.c (.sl 1 (bytePV l))] (.c (.v (.int .i64 z))) ∧ (decide (z ≥ 0) = isRight l) := by
 have hlen : (bytePV l).length = l.length := by simp [bytePV]
 refine ⟨if (uCnt l 0 0).2 = 0 then ((uCnt l 0 0).1 : Int) else -1, ?_, ?_⟩
 rotate_left
 · unfold isRight
   split
   · simp_all
   · simp_all
 obtain ⟨V, hV⟩ : ∃ V, V = uCnt l 0 0 := ⟨_, rfl⟩
 rw [← hV]
 refine VC.toldP ent_204 Tryz.func204 rfl Tryz.ntmps204 fun hb => ?_
 clear hb
 refine walkG ?_
 refine VC.loop (ι := {q : Nat × Nat // q.1 ≤ l.length ∧ q.2 ≤ q.1 ∧ uCnt l q.1 q.2 = V}) (fun q => [(0, .c (.sl 1 (bytePV l))), (3, .c (.v (.int .i64 (q.1.2 : Int)))), (4, .c (.v (.int .i64 (q.1.1 : Int))))]) (fun _ => []) 800 (fun q => l.length - q.1.1)
  ⟨(0, 0), Nat.zero_le _, Nat.le_refl _, hV.symm⟩ ?_ ?_
 · exact weakZ
 rintro ⟨⟨p, k⟩, hp, hk, hu⟩
 simp only [] at hp hk hu ⊢
 refine walkGF (hlen) ?_
 refine VC.cond (by rfl) (by trivial) (fun hc => ?_) (fun hc => ?_)
 · have hlt : p < l.length := by simp at hc; omega
   obtain ⟨v, nx, e, hT, h1, h2⟩ := rtake3_told l p hp hbig
   by_cases he : uerr l p = 0
   · obtain ⟨rfl, rfl⟩ := h1 he
     have hub := ulen_bound he
     have hw : IntKind.i64.wrap ((k : Int) + 1) = (k : Int) + 1 := wrap64_id (by omega) (by omega)
     rw [uCnt_next hlt he] at hu
     refine walkG ?_
     refine walkC (hT) ?_
     refine walkBF (hw) ?_
     refine .next ⟨(p + ulen l p, k + 1), hub.2, by simp only []; omega, hu⟩ ?_ (by simp only []; omega)
     refine weakX ?_
     exact ⟨cI (by omega), cI (by omega)⟩
   · have hne := h2 he
     rw [uCnt_bad hlt he] at hu
     subst hu
     have e5 : (e != 0) = true := by simpa using hne
     refine walkG ?_
     refine walkC (hT) ?_
     refine walkBF (e5) ?_
     refine retX Tryz.results204 ?_
     exact .c _
 · have hpe : p = l.length := by simp at hc; omega
   rw [uCnt_end (by omega)] at hu
   subst hu
   refine walkG ?_
   refine retX Tryz.results204 ?_
   exact .c _

def rB (B : List UInt8) (p : Nat) (e : Int) : Blkd := ⟨false, 149, 3, [[.c (.sl 1 (bytePV B)), .c (.v (.int .i64 (p : Int))), .c (.v (.int .i64 e))]]⟩
structure Adv (B : List UInt8) (p : Nat) (e : Int) (q : Nat) (e' : Int) : Prop where
 le : q ≤ B.length
 up : p ≤ q
 no : e ≠ 0 → q = p ∧ e' = e
theorem ready_told (B : List UInt8) (p : Nat) (hp : p ≤ B.length) (e : Int) : ToldM Tryz.prog 225 [.ref 1000000 1 0 0] [rB B p e] [some (rB B p e)] (.c (.v (.bool (decide (e = 0))))) := by
 have hbl := bytePV_l B
 have e2 : decide ((p : Int) < 0) = false := by simp
 have e3 : decide ((p : Int) > (B.length : Int)) = false := by simp; omega
 unfold rB
 by_cases h : e = 0
 · have e1 : (e == 0) = true := by simpa using h
   rw [decide_eq_true h]
   refine VC.toldX ent_225 [] Tryz.func225 rfl Tryz.ntmps225 fun hb hbL => ?_
   clear hb hbL
   refine walkBF (And.intro e1 (And.intro e2 (And.intro e3 hbl))) ?_
   refine retX Tryz.results225 ?_
   exact .c _
 · have e1 : (e == 0) = false := by simpa using h
   rw [decide_eq_false h]
   refine VC.toldX ent_225 [] Tryz.func225 rfl Tryz.ntmps225 fun hb hbL => ?_
   clear hb hbL
   refine walkBF (And.intro e1 hbl) ?_
   refine retX Tryz.results225 ?_
   exact .c _
theorem r4number_told (most last : Nat) (hm : 0 < most) (hm2 : most ≤ 1000) (B : List UInt8) (hB : B.length ≤ 1000000) (p : Nat) (hp : p ≤ B.length) (e : Int) : ∃ (n : Int) (q : Nat) (e' : Int), Adv B p e q e' ∧ (e' = 0 → p < q) ∧ (e' ≠ 0 → n = 0) ∧ (-9223372036854775808 ≤ n ∧ n ≤ 9223372036854775807) ∧
  ToldM Tryz.prog 224 [.ref 1000000 1 0 0, .c (.v (.int .i64 (most : Int))), .c (.v (.int .u8 (last : Int)))] [rB B p e] [some (rB B q e')] (.c (.v (.int .i64 n))) := by
 have hR := ready_told B p hp e
 by_cases h : e = 0
 · subst h
   rw [decide_eq_true rfl] at hR
   obtain ⟨n, q, e', h1, h2, h3, h4, h5, hT⟩ := r2take_told most last hm hm2 B hB p hp
   refine ⟨n, q, e', ⟨h2, h1, fun h => absurd rfl h⟩, h3, fun h => (h4 h).2, h5, ?_⟩
   unfold rB at *
   refine VC.toldX ent_224 [] Tryz.func224 rfl Tryz.ntmps224 fun hb hbL => ?_
   clear hb hbL
   refine walkG ?_
   refine walkL [1000000] (hR) ?_
   refine walkB ?_
   refine walkC (hT) ?_
   refine walkB ?_
   refine retX Tryz.results224 ?_
   exact .c _
 · rw [decide_eq_false h] at hR
   refine ⟨0, p, e, ⟨hp, Nat.le_refl _, fun _ => ⟨rfl, rfl⟩⟩, fun h0 => absurd h0 h, fun _ => rfl, by decide, ?_⟩
   unfold rB at *
   refine VC.toldX ent_224 [] Tryz.func224 rfl Tryz.ntmps224 fun hb hbL => ?_
   clear hb hbL
   refine walkG ?_
   refine walkL [1000000] (hR) ?_
   refine walkB ?_
   refine retX Tryz.results224 ?_
   exact .c _
theorem r4long_told (B : List UInt8) (hB : B.length ≤ 1000000) (p : Nat) (hp : p ≤ B.length) (e : Int) : ∃ (n : Int) (q : Nat) (e' : Int), Adv B p e q e' ∧ (e' = 0 → p < q) ∧ (e' ≠ 0 → n = 0) ∧ (-9223372036854775808 ≤ n ∧ n ≤ 9223372036854775807) ∧
  ToldM Tryz.prog 200 [.ref 1000000 1 0 0] [rB B p e] [some (rB B q e')] (.c (.v (.int .i64 n))) := by
 obtain ⟨n, q, e', h1, h2, h3, h4, hT⟩ := r4number_told 10 1 (by decide) (by decide) B hB p hp e
 refine ⟨n, q, e', h1, h2, h3, h4, ?_⟩
 rw [show ((10 : Nat) : Int) = 10 from rfl, show ((1 : Nat) : Int) = 1 from rfl] at hT
 unfold rB at *
 refine VC.toldX ent_200 [] Tryz.func200 rfl Tryz.ntmps200 fun hb hbL => ?_
 clear hb hbL
 refine walkG ?_
 refine walkL [1000000] (hT) ?_
 refine walkG ?_
 refine retX Tryz.results200 ?_
 exact .c _
theorem r4int_told (B : List UInt8) (hB : B.length ≤ 1000000) (p : Nat) (hp : p ≤ B.length) (e : Int) : ∃ (n : Int) (q : Nat) (e' : Int), Adv B p e q e' ∧ (e' = 0 → p < q) ∧ (e' ≠ 0 → n = 0) ∧ (-9223372036854775808 ≤ n ∧ n ≤ 9223372036854775807) ∧
  ToldM Tryz.prog 199 [.ref 1000000 1 0 0] [rB B p e] [some (rB B q e')] (.c (.v (.int .i64 n))) := by
 obtain ⟨n, q, e', h1, h2, h3, h4, hT⟩ := r4number_told 5 15 (by decide) (by decide) B hB p hp e
 refine ⟨n, q, e', h1, h2, h3, h4, ?_⟩
 rw [show ((5 : Nat) : Int) = 5 from rfl, show ((15 : Nat) : Int) = 15 from rfl] at hT
 unfold rB at *
 refine VC.toldX ent_199 [] Tryz.func199 rfl Tryz.ntmps199 fun hb hbL => ?_
 clear hb hbL
 refine walkG ?_
 refine walkL [1000000] (hT) ?_
 refine walkG ?_
 refine retX Tryz.results199 ?_
 exact .c _
theorem r4fixed_told (B : List UInt8) (hB : B.length ≤ 1000000) (p : Nat) (hp : p ≤ B.length) (e n : Int) (hn : -1000000000 ≤ n) (hn' : n ≤ 1000000000) : ∃ (l : List UInt8) (q : Nat) (e' : Int), Adv B p e q e' ∧ l.length ≤ 1000000 ∧ (e' = 0 → (l.length : Int) = max n 0) ∧
  ToldM Tryz.prog 203 [.ref 1000000 1 0 0, .c (.v (.int .i64 n))] [rB B p e] [some (rB B q e')] (.c (.sl 1 (bytePV l))) := by
 have hR := ready_told B p hp e
 by_cases h : e = 0
 · subst h
   rw [decide_eq_true rfl] at hR
   have hbl := bytePV_l B
   have hsb : IntKind.i64.wrap ((B.length : Int) - (p : Int)) = ((B.length - p : Nat) : Int) := by rw [wrap64_id (by omega) (by omega)]; omega
   by_cases hm : n.toNat ≤ B.length - p
   · refine ⟨(B.drop p).take n.toNat, p + n.toNat, 0, ⟨by omega, by omega, fun h => absurd rfl h⟩, by rw [List.length_take, List.length_drop]; omega, fun _ => by rw [List.length_take, List.length_drop]; omega, ?_⟩
     have hdt : ((bytePV B).take (p + n.toNat)).drop p = bytePV ((B.drop p).take n.toNat) := by rw [List.drop_take, Nat.add_sub_cancel_left]; simp [bytePV, List.map_drop, List.map_take]
     have hll : ((B.drop p).take n.toNat).length ≤ 1000000 := by rw [List.length_take, List.length_drop]; omega
     generalize (B.drop p).take n.toNat = l at hdt hll ⊢
     have hl := bytePV_l l
     have hbo : (bytePV l).map (fun e => e.map AV.c) = bA l := (bA_pv l).symm
     by_cases h0 : n < 0
     · have e0 : decide (n < 0) = true := by simpa using h0
       have hn0 : n.toNat = 0 := by omega
       rw [hn0, Nat.add_zero] at hdt
       rw [hn0, Nat.add_zero]
       have e1 : decide ((0 : Int) > ((B.length - p : Nat) : Int)) = false := by simp
       have hw : IntKind.i64.wrap ((p : Int) + 0) = (p : Int) := by rw [wrap64_id (by omega) (by omega)]; omega
       unfold rB at *
       refine VC.toldX ent_203 [] Tryz.func203 rfl Tryz.ntmps203 fun hb hbL => ?_
       clear hb hbL
       refine walkG ?_
       refine walkL [1000000] (hR) ?_
       refine walkBF (And.intro e0 (And.intro hbl (And.intro hsb (And.intro e1 (And.intro hw (And.intro hdt (And.intro hl (And.intro hbo @bA_len)))))))) ?_
       refine retXF (@bA_len) Tryz.results203 ?_
       exact frz_rA (f := fun b : UInt8 => [PV.v (.int .u8 (b.toNat : Int))]) (l := l) (T := 5) rfl rfl rfl (by simp)
     · have e0 : decide (n < 0) = false := by simpa using h0
       obtain ⟨m, rfl⟩ : ∃ m : Nat, n = (m : Int) := ⟨n.toNat, by omega⟩
       rw [Int.toNat_natCast] at hdt hm ⊢
       have e1 : decide ((m : Int) > ((B.length - p : Nat) : Int)) = false := by simp; omega
       have hw : IntKind.i64.wrap ((p : Int) + (m : Int)) = ((p + m : Nat) : Int) := by rw [wrap64_id (by omega) (by omega)]; omega
       unfold rB at *
       refine VC.toldX ent_203 [] Tryz.func203 rfl Tryz.ntmps203 fun hb hbL => ?_
       clear hb hbL
       refine walkG ?_
       refine walkL [1000000] (hR) ?_
       refine walkBF (And.intro e0 (And.intro hbl (And.intro hsb (And.intro e1 (And.intro hw (And.intro hdt (And.intro hl (And.intro hbo @bA_len)))))))) ?_
       refine retXF (@bA_len) Tryz.results203 ?_
       exact frz_rA (f := fun b : UInt8 => [PV.v (.int .u8 (b.toNat : Int))]) (l := l) (T := 5) rfl rfl rfl (by simp)
   · refine ⟨[], p, 10, ⟨hp, Nat.le_refl _, fun h => absurd rfl h⟩, by simp, fun h => absurd h (by decide), ?_⟩
     have e0 : decide (n < 0) = false := by simp; omega
     have e1 : decide (n > ((B.length - p : Nat) : Int)) = true := by simp; omega
     unfold rB at *
     refine VC.toldX ent_203 [] Tryz.func203 rfl Tryz.ntmps203 fun hb hbL => ?_
     clear hb hbL
     refine walkG ?_
     refine walkL [1000000] (hR) ?_
     refine walkBF (And.intro e0 (And.intro hbl (And.intro hsb e1))) ?_
     refine retX Tryz.results203 ?_
     exact .nil 1
 · rw [decide_eq_false h] at hR
   refine ⟨[], p, e, ⟨hp, Nat.le_refl _, fun _ => ⟨rfl, rfl⟩⟩, by simp, fun h0 => absurd h0 h, ?_⟩
   unfold rB at *
   refine VC.toldX ent_203 [] Tryz.func203 rfl Tryz.ntmps203 fun hb hbL => ?_
   clear hb hbL
   refine walkG ?_
   refine walkL [1000000] (hR) ?_
   refine walkB ?_
   refine retX Tryz.results203 ?_
   exact .nil 1
theorem r4bool_told (B : List UInt8) (hB : B.length ≤ 1000000) (p : Nat) (hp : p ≤ B.length) (e : Int) : ∃ (n : Int) (q : Nat) (e' : Int), Adv B p e q e' ∧
  ToldM Tryz.prog 198 [.ref 1000000 1 0 0] [rB B p e] [some (rB B q e')] (.c (.v (.int .i64 n))) := by
 obtain ⟨l, q, e', h1, h2, h3, hF⟩ := r4fixed_told B hB p hp e 1 (by decide) (by decide)
 by_cases h : e' = 0
 · have hl : l.length = 1 := by have := h3 h; omega
   obtain ⟨c, rfl⟩ := List.length_eq_one_iff.1 hl
   have hc8 := c.toNat_lt
   have hcp : (bytePV [c])[0]? = some [.v (.int .u8 (c.toNat : Int))] := rfl
   have hcl : (bytePV [c]).length = 1 := rfl
   have hcv : IntKind.i64.wrap (c.toNat : Int) = (c.toNat : Int) := wrap64_id (by omega) (by omega)
   have he : e = 0 := Decidable.not_not.1 fun h0 => h0 ((h1.no h0).2.symm.trans h)
   subst h he
   generalize bytePV [c] = bl at hF hcp hcl
   by_cases h0 : c.toNat = 0
   · have f1 : ((c.toNat : Int) != 0) = false := by simp [h0]
     refine ⟨(c.toNat : Int), q, 0, h1, ?_⟩
     unfold rB at *
     refine VC.toldX ent_198 [] Tryz.func198 rfl Tryz.ntmps198 fun hb hbL => ?_
     clear hb hbL
     refine walkG ?_
     refine walkL [1000000] (hF) ?_
     refine walkBF (And.intro hcp (And.intro hcl (And.intro f1 hcv))) ?_
     refine retX Tryz.results198 ?_
     exact .c _
   have f1 : ((c.toNat : Int) != 0) = true := by simp; omega
   by_cases h9 : c.toNat = 1
   · have f2 : ((c.toNat : Int) != 1) = false := by simp [h9]
     refine ⟨(c.toNat : Int), q, 0, h1, ?_⟩
     unfold rB at *
     refine VC.toldX ent_198 [] Tryz.func198 rfl Tryz.ntmps198 fun hb hbL => ?_
     clear hb hbL
     refine walkG ?_
     refine walkL [1000000] (hF) ?_
     refine walkBF (And.intro hcp (And.intro hcl (And.intro f1 (And.intro f2 hcv)))) ?_
     refine retX Tryz.results198 ?_
     exact .c _
   · have f2 : ((c.toNat : Int) != 1) = true := by simp; omega
     refine ⟨0, p, 11, ⟨hp, Nat.le_refl _, fun h => absurd rfl h⟩, ?_⟩
     unfold rB at *
     refine VC.toldX ent_198 [] Tryz.func198 rfl Tryz.ntmps198 fun hb hbL => ?_
     clear hb hbL
     refine walkG ?_
     refine walkL [1000000] (hF) ?_
     refine walkBF (And.intro hcp (And.intro hcl (And.intro f1 (And.intro f2 hcv)))) ?_
     refine retX Tryz.results198 ?_
     exact .c _
 · have e1 : (e' != 0) = true := by simpa using h
   refine ⟨0, q, e', h1, ?_⟩
   unfold rB at *
   refine VC.toldX ent_198 [] Tryz.func198 rfl Tryz.ntmps198 fun hb hbL => ?_
   clear hb hbL
   refine walkG ?_
   refine walkL [1000000] (hF) ?_
   refine walkBF (e1) ?_
   refine retX Tryz.results198 ?_
   exact .c _
theorem r4bytes_told (B : List UInt8) (hB : B.length ≤ 1000000) (p : Nat) (hp : p ≤ B.length) (e : Int) : ∃ (l : List UInt8) (q : Nat) (e' : Int), Adv B p e q e' ∧ l.length ≤ 1000000 ∧
  ToldM Tryz.prog 202 [.ref 1000000 1 0 0] [rB B p e] [some (rB B q e')] (.c (.sl 1 (bytePV l))) := by
 obtain ⟨n, q, e1, a1, a2, a3, a4, hL⟩ := r4long_told B hB p hp e
 by_cases h : e1 = 0
 · have he : e = 0 := Decidable.not_not.1 fun h0 => h0 ((a1.no h0).2.symm.trans h)
   subst h he
   by_cases h1 : n < 0
   · have f1 : decide (n < 0) = true := by simpa using h1
     refine ⟨[], p, 11, ⟨hp, Nat.le_refl _, fun h => absurd rfl h⟩, by simp, ?_⟩
     unfold rB at *
     refine VC.toldX ent_202 [] Tryz.func202 rfl Tryz.ntmps202 fun hb hbL => ?_
     clear hb hbL
     refine walkG ?_
     refine walkL [1000000] (hL) ?_
     refine walkBF (f1) ?_
     refine retX Tryz.results202 ?_
     exact .nil 1
   have f1 : decide (n < 0) = false := by simpa using h1
   by_cases h2 : 20000 < n
   · have f2 : decide (n > 20000) = true := by simpa using h2
     refine ⟨[], p, 15, ⟨hp, Nat.le_refl _, fun h => absurd rfl h⟩, by simp, ?_⟩
     unfold rB at *
     refine VC.toldX ent_202 [] Tryz.func202 rfl Tryz.ntmps202 fun hb hbL => ?_
     clear hb hbL
     refine walkG ?_
     refine walkL [1000000] (hL) ?_
     refine walkBF (And.intro f1 f2) ?_
     refine retX Tryz.results202 ?_
     exact .nil 1
   have f2 : decide (n > 20000) = false := by simpa using h2
   have hwn : IntKind.i64.wrap n = n := wrap64_id (by omega) (by omega)
   obtain ⟨l, q2, e2, b1, b2, b3, hF⟩ := r4fixed_told B hB q a1.le 0 n (by omega) (by omega)
   by_cases h3 : e2 = 0
   · have hl := b3 h3
     subst h3
     refine ⟨l, q2, 0, ⟨b1.le, Nat.le_trans a1.up b1.up, fun h => absurd rfl h⟩, by omega, ?_⟩
     unfold rB at *
     refine VC.toldX ent_202 [] Tryz.func202 rfl Tryz.ntmps202 fun hb hbL => ?_
     clear hb hbL
     refine walkG ?_
     refine walkL [1000000] (hL) ?_
     refine walkBF (And.intro f1 (And.intro f2 hwn)) ?_
     refine walkL [1000000] (hF) ?_
     refine walkB ?_
     refine retX Tryz.results202 ?_
     exact .c _
   · have f3 : (e2 != 0) = true := by simpa using h3
     refine ⟨l, p, e2, ⟨hp, Nat.le_refl _, fun h => absurd rfl h⟩, b2, ?_⟩
     unfold rB at *
     refine VC.toldX ent_202 [] Tryz.func202 rfl Tryz.ntmps202 fun hb hbL => ?_
     clear hb hbL
     refine walkG ?_
     refine walkL [1000000] (hL) ?_
     refine walkBF (And.intro f1 (And.intro f2 hwn)) ?_
     refine walkL [1000000] (hF) ?_
     refine walkBF (f3) ?_
     refine retX Tryz.results202 ?_
     exact .c _
 · have f0 : (e1 == 0) = false := by simpa using h
   have f3 : (e1 != 0) = true := by simpa using h
   refine ⟨[], p, e1, ⟨hp, Nat.le_refl _, fun h0 => ⟨rfl, (a1.no h0).2⟩⟩, by simp, ?_⟩
   unfold rB at *
   refine VC.toldX ent_202 [] Tryz.func202 rfl Tryz.ntmps202 fun hb hbL => ?_
   clear hb hbL
   refine walkG ?_
   refine walkL [1000000] (hL) ?_
   refine walkBF (And.intro f0 f3) ?_
   refine retX Tryz.results202 ?_
   exact .nil 1
theorem r4text_told (B : List UInt8) (hB : B.length ≤ 1000000) (p : Nat) (hp : p ≤ B.length) (e : Int) : ∃ (l : List UInt8) (q : Nat) (e' : Int), Adv B p e q e' ∧
  ToldM Tryz.prog 163 [.ref 1000000 1 0 0] [rB B p e] [some (rB B q e')] (.c (.sl 1 (bytePV l))) := by
 obtain ⟨l, q, e1, a1, a2, hL⟩ := r4bytes_told B hB p hp e
 by_cases h : e1 = 0
 · have he : e = 0 := Decidable.not_not.1 fun h0 => h0 ((a1.no h0).2.symm.trans h)
   subst h he
   obtain ⟨z, hC, _⟩ := rcount3_told l a2
   by_cases hz : z < 0
   · have f1 : decide (z < 0) = true := by simpa using hz
     refine ⟨[], p, 11, ⟨hp, Nat.le_refl _, fun h => absurd rfl h⟩, ?_⟩
     unfold rB at *
     refine VC.toldX ent_163 [] Tryz.func163 rfl Tryz.ntmps163 fun hb hbL => ?_
     clear hb hbL
     refine walkG ?_
     refine walkL [1000000] (hL) ?_
     refine walkB ?_
     refine walkC (hC) ?_
     refine walkBF (f1) ?_
     refine retX Tryz.results163 ?_
     exact .nil 1
   · have f1 : decide (z < 0) = false := by simpa using hz
     refine ⟨l, q, 0, a1, ?_⟩
     unfold rB at *
     refine VC.toldX ent_163 [] Tryz.func163 rfl Tryz.ntmps163 fun hb hbL => ?_
     clear hb hbL
     refine walkG ?_
     refine walkL [1000000] (hL) ?_
     refine walkB ?_
     refine walkC (hC) ?_
     refine walkBF (f1) ?_
     refine retX Tryz.results163 ?_
     exact .c _
 · have f0 : (e1 == 0) = false := by simpa using h
   refine ⟨l, q, e1, a1, ?_⟩
   unfold rB at *
   refine VC.toldX ent_163 [] Tryz.func163 rfl Tryz.ntmps163 fun hb hbL => ?_
   clear hb hbL
   refine walkG ?_
   refine walkL [1000000] (hL) ?_
   refine walkBF (f0) ?_
   refine retX Tryz.results163 ?_
   exact .c _

def foldX (l : List UInt8) : Nat → Nat
 | 0 => 0
 | j + 1 => (foldX l j * 256 + ((l[l.length - 1 - j]?).getD 0).toNat) % 18446744073709551616
theorem r4bits_told (B : List UInt8) (hB : B.length ≤ 1000000) (p : Nat) (hp : p ≤ B.length) (e : Int) (k : Nat) (hk : k ≤ 8) : ∃ (u : Int) (q : Nat) (e' : Int), Adv B p e q e' ∧
  ToldM Tryz.prog 201 [.ref 1000000 1 0 0, .c (.v (.int .i64 (k : Int)))] [rB B p e] [some (rB B q e')] (.c (.v (.int .u64 u))) := by
 obtain ⟨l, q, e', h1, h2, h3, hF⟩ := r4fixed_told B hB p hp e (k : Int) (by omega) (by omega)
 refine ⟨((foldX l l.length : Nat) : Int), q, e', h1, ?_⟩
 have hbl := bytePV_l l
 have e1 : decide ((k : Int) > 8) = false := by simp; omega
 have hw0 : IntKind.i64.wrap ((l.length : Int) - 1) = (l.length : Int) - 1 := wrap64_id (by omega) (by omega)
 unfold rB at *
 refine VC.toldX ent_201 [] Tryz.func201 rfl Tryz.ntmps201 fun hb hbL => ?_
 clear hb hbL
 refine walkBF (e1) ?_
 refine walkL [1000000] (hF) ?_
 refine walkBF (And.intro hbl hw0) ?_
 refine VC.loop (ι := {j : Nat // j ≤ l.length}) (fun j => [(5, .c (.sl 1 (bytePV l))), (6, .c (.v (.int .u64 ((foldX l j.1 : Nat) : Int)))), (7, .c (.v (.int .i64 ((l.length : Int) - 1 - (j.1 : Int)))))])
  (fun _ => [(1000000, ⟨false, 149, 3, [[.c (.sl 1 (bytePV B)), .c (.v (.int .i64 (q : Int))), .c (.v (.int .i64 e'))]]⟩)]) 4000 (fun j => l.length - j.1) ⟨0, Nat.zero_le _⟩ ?_ ?_
 · simp only [hbl, Weak, eq_self, used_is, sc_any, sc_c, sc_pp, sc_ref, sc_row, sc_agg, sc_fn, ScL, some_imp, List.forall_mem_map, go_sem, Int.reduceBEq, Int.reduceLE, Int.reduceLT, Int.reduceNeg, Nat.reduceAdd, Nat.reduceEqDiff, Nat.reduceLT, Nat.reduceLeDiff, Nat.reduceMul, Nat.reduceSub, reduceCtorEq, ↓reduceIte]
   (try simp [foldX])
 rintro ⟨j, hj⟩
 simp only [] at hj ⊢
 by_cases hji : j < l.length
 · obtain ⟨y, hy⟩ : ∃ y, l[l.length - 1 - j]? = some y := ⟨_, List.getElem?_eq_getElem (show l.length - 1 - j < l.length by omega)⟩
   have hy8 := y.toNat_lt
   obtain ⟨i, hi⟩ : ∃ i : Nat, i = l.length - 1 - j := ⟨_, rfl⟩
   have hii : (l.length : Int) - 1 - (j : Int) = (i : Int) := by omega
   rw [← hi] at hy
   have g1 : decide ((i : Int) ≥ 0) = true := by simp
   have g3 : (bytePV l)[i]? = some [.v (.int .u8 (y.toNat : Int))] := by unfold bytePV; rw [List.getElem?_map, hy]; rfl
   have g6 : IntKind.u64.wrap (y.toNat : Int) = (y.toNat : Int) := by rw [IntKind.wrap_u64]; omega
   have g7 : IntKind.u64.wrap (IntKind.u64.wrap (((foldX l j : Nat) : Int) * 256) + (y.toNat : Int)) = ((foldX l (j + 1) : Nat) : Int) := by
    rw [foldX, ← hi, hy, IntKind.wrap_u64, IntKind.wrap_u64]
    simp only [Option.getD_some]
    omega
   have g8 : IntKind.i64.wrap ((i : Int) - 1) = (l.length : Int) - 1 - ((j + 1 : Nat) : Int) := by rw [wrap64_id (by omega) (by omega)]; omega
   have g9 : i < l.length := by omega
   generalize hU1 : foldX l (j + 1) = U1 at g7
   generalize hU0 : foldX l j = U0 at g7
   rw [hii]
   refine walkBF (And.intro hbl (And.intro g1 (And.intro g3 (And.intro g6 (And.intro g7 g8))))) ?_
   refine .next ⟨j + 1, hji⟩ ?_ (by simp only []; omega)
   simp only [hbl, Weak, eq_self, used_is, sc_any, sc_c, sc_pp, sc_ref, sc_row, sc_agg, sc_fn, ScL, some_imp, List.forall_mem_map, go_sem, Int.reduceBEq, Int.reduceLE, Int.reduceLT, Int.reduceNeg, Nat.reduceAdd, Nat.reduceEqDiff, Nat.reduceLT, Nat.reduceLeDiff, Nat.reduceMul, Nat.reduceSub, reduceCtorEq, ↓reduceIte]
   (try rw [hU1])
 · obtain rfl : j = l.length := by omega
   have g1 : decide ((l.length : Int) - 1 - (l.length : Int) ≥ 0) = false := by simp; omega
   generalize foldX l l.length = U
   refine walkBF (And.intro hbl g1) ?_
   refine retX Tryz.results201 ?_
   exact .c _
theorem rcount_told (B : List UInt8) (hB : B.length ≤ 1000000) (p : Nat) (hp : p ≤ B.length) (e : Int) (k : Nat) (hk : k ≤ 300) : ∃ (m q : Nat) (e' : Int), Adv B p e q e' ∧ m + k ≤ 300 ∧ (e' ≠ 0 → m = 0) ∧
  ToldM Tryz.prog 162 [.ref 1000000 1 0 0, .c (.v (.int .i64 (k : Int)))] [rB B p e] [some (rB B q e')] (.c (.v (.int .i64 (m : Int)))) := by
 have hw : IntKind.i64.wrap (300 - (k : Int)) = ((300 - k : Nat) : Int) := by rw [wrap64_id (by omega) (by omega)]; omega
 obtain ⟨n, q, e1, a1, a2, a3, a4, hL⟩ := r4long_told B hB p hp e
 by_cases hn : n < 0
 · have f1 : decide (n < 0) = true := by simpa using hn
   obtain ⟨n2, q2, e2, b1, b2, b3, b4, hL2⟩ := r4long_told B hB q a1.le e1
   have hadv : Adv B p e q2 e2 := ⟨b1.le, Nat.le_trans a1.up b1.up, fun h0 => by
    have h1 := a1.no h0
    have h2 := b1.no (by rw [h1.2]; exact h0)
    exact ⟨h2.1.trans h1.1, h2.2.trans h1.2⟩⟩
   by_cases h3 : n < -300
   · have f2 : decide (n < -300) = true := by simpa using h3
     have f3 : IntKind.i64.wrap (0 - (-301 : Int)) = 301 := by decide
     have f4 : decide ((301 : Int) > ((300 - k : Nat) : Int)) = true := by simp; omega
     by_cases h4 : e2 = 0
     · subst h4
       have he : e = 0 := Decidable.not_not.1 fun h0 => h0 ((hadv.no h0).2.symm)
       refine ⟨0, q2, 15, ⟨hadv.le, hadv.up, fun h0 => absurd he h0⟩, by omega, fun _ => rfl, ?_⟩
       unfold rB at *
       refine VC.toldX ent_162 [] Tryz.func162 rfl Tryz.ntmps162 fun hb hbL => ?_
       clear hb hbL
       refine walkG ?_
       refine walkL [1000000] (hL) ?_
       refine walkBF (f1) ?_
       refine walkL [1000000] (hL2) ?_
       refine walkBF (And.intro f2 (And.intro f3 (And.intro f4 hw))) ?_
       refine retX Tryz.results162 ?_
       exact .c _
     · have f5 : (e2 == 0) = false := by simpa using h4
       have f6 : (e2 != 0) = true := by simpa using h4
       refine ⟨0, q2, e2, hadv, by omega, fun _ => rfl, ?_⟩
       unfold rB at *
       refine VC.toldX ent_162 [] Tryz.func162 rfl Tryz.ntmps162 fun hb hbL => ?_
       clear hb hbL
       refine walkG ?_
       refine walkL [1000000] (hL) ?_
       refine walkBF (f1) ?_
       refine walkL [1000000] (hL2) ?_
       refine walkBF (And.intro f2 (And.intro f3 (And.intro f4 (And.intro f5 (And.intro f6 hw))))) ?_
       refine retX Tryz.results162 ?_
       exact .c _
   · have f2 : decide (n < -300) = false := by simpa using h3
     obtain ⟨m, rfl⟩ : ∃ m : Nat, n = -(m : Int) := ⟨(-n).toNat, by omega⟩
     have f3 : IntKind.i64.wrap (0 - (-(m : Int))) = (m : Int) := by rw [wrap64_id (by omega) (by omega)]; omega
     by_cases h4 : e2 = 0
     · subst h4
       have he : e = 0 := Decidable.not_not.1 fun h0 => h0 ((hadv.no h0).2.symm)
       by_cases h5 : 300 - k < m
       · have f4 : decide ((m : Int) > ((300 - k : Nat) : Int)) = true := by simp; omega
         refine ⟨0, q2, 15, ⟨hadv.le, hadv.up, fun h0 => absurd he h0⟩, by omega, fun _ => rfl, ?_⟩
         unfold rB at *
         refine VC.toldX ent_162 [] Tryz.func162 rfl Tryz.ntmps162 fun hb hbL => ?_
         clear hb hbL
         refine walkG ?_
         refine walkL [1000000] (hL) ?_
         refine walkBF (f1) ?_
         refine walkL [1000000] (hL2) ?_
         refine walkBF (And.intro f2 (And.intro f3 (And.intro f4 hw))) ?_
         refine retX Tryz.results162 ?_
         exact .c _
       · have f4 : decide ((m : Int) > ((300 - k : Nat) : Int)) = false := by simp; omega
         refine ⟨m, q2, 0, hadv, by omega, fun h => absurd rfl h, ?_⟩
         unfold rB at *
         refine VC.toldX ent_162 [] Tryz.func162 rfl Tryz.ntmps162 fun hb hbL => ?_
         clear hb hbL
         refine walkG ?_
         refine walkL [1000000] (hL) ?_
         refine walkBF (f1) ?_
         refine walkL [1000000] (hL2) ?_
         refine walkBF (And.intro f2 (And.intro f3 (And.intro f4 hw))) ?_
         refine retX Tryz.results162 ?_
         exact .c _
     · have f5 : (e2 == 0) = false := by simpa using h4
       have f6 : (e2 != 0) = true := by simpa using h4
       refine ⟨0, q2, e2, hadv, by omega, fun _ => rfl, ?_⟩
       unfold rB at *
       refine VC.toldX ent_162 [] Tryz.func162 rfl Tryz.ntmps162 fun hb hbL => ?_
       clear hb hbL
       refine walkG ?_
       refine walkL [1000000] (hL) ?_
       refine walkBF (f1) ?_
       refine walkL [1000000] (hL2) ?_
       refine walkBF (And.intro f2 (And.intro f3 (And.intro f5 (And.intro f6 hw)))) ?_
       refine retX Tryz.results162 ?_
       exact .c _
 · have f1 : decide (n < 0) = false := by simpa using hn
   obtain ⟨m, rfl⟩ : ∃ m : Nat, n = (m : Int) := ⟨n.toNat, by omega⟩
   by_cases h4 : e1 = 0
   · subst h4
     have he : e = 0 := Decidable.not_not.1 fun h0 => h0 ((a1.no h0).2.symm)
     by_cases h5 : 300 - k < m
     · have f4 : decide ((m : Int) > ((300 - k : Nat) : Int)) = true := by simp; omega
       refine ⟨0, q, 15, ⟨a1.le, a1.up, fun h0 => absurd he h0⟩, by omega, fun _ => rfl, ?_⟩
       unfold rB at *
       refine VC.toldX ent_162 [] Tryz.func162 rfl Tryz.ntmps162 fun hb hbL => ?_
       clear hb hbL
       refine walkG ?_
       refine walkL [1000000] (hL) ?_
       refine walkBF (And.intro f1 (And.intro f4 hw)) ?_
       refine retX Tryz.results162 ?_
       exact .c _
     · have f4 : decide ((m : Int) > ((300 - k : Nat) : Int)) = false := by simp; omega
       refine ⟨m, q, 0, a1, by omega, fun h => absurd rfl h, ?_⟩
       unfold rB at *
       refine VC.toldX ent_162 [] Tryz.func162 rfl Tryz.ntmps162 fun hb hbL => ?_
       clear hb hbL
       refine walkG ?_
       refine walkL [1000000] (hL) ?_
       refine walkBF (And.intro f1 (And.intro f4 hw)) ?_
       refine retX Tryz.results162 ?_
       exact .c _
   · have f5 : (e1 == 0) = false := by simpa using h4
     have f6 : (e1 != 0) = true := by simpa using h4
     refine ⟨0, q, e1, a1, by omega, fun _ => rfl, ?_⟩
     unfold rB at *
     refine VC.toldX ent_162 [] Tryz.func162 rfl Tryz.ntmps162 fun hb hbL => ?_
     clear hb hbL
     refine walkG ?_
     refine walkL [1000000] (hL) ?_
     refine walkBF (And.intro f1 (And.intro f5 (And.intro f6 hw))) ?_
     refine retX Tryz.results162 ?_
     exact .c _

theorem rplacel_told (B : List UInt8) (hB : B.length ≤ 1000000) (p : Nat) (hp : p ≤ B.length) (e : Int) (many : Nat) : ∃ (n q : Nat) (e' : Int), Adv B p e q e' ∧ (n < many ∨ n = 0) ∧
  ToldM Tryz.prog 161 [.ref 1000000 1 0 0, .c (.v (.bool true)), .c (.v (.int .i64 (many : Int)))] [rB B p e] [some (rB B q e')] (.c (.v (.int .i64 (n : Int)))) := by
 obtain ⟨n, q, e1, a1, a2, a3, a4, hL⟩ := r4long_told B hB p hp e
 by_cases h : e1 = 0
 · subst h
   have he : e = 0 := Decidable.not_not.1 fun h0 => h0 ((a1.no h0).2.symm)
   by_cases h1 : n < 0
   · have f1 : decide (n < 0) = true := by simpa using h1
     refine ⟨0, q, 11, ⟨a1.le, a1.up, fun h0 => absurd he h0⟩, .inr rfl, ?_⟩
     unfold rB at *
     refine VC.toldX ent_161 [] Tryz.func161 rfl Tryz.ntmps161 fun hb hbL => ?_
     clear hb hbL
     refine walkB ?_
     refine walkL [1000000] (hL) ?_
     refine walkBF (f1) ?_
     refine retX Tryz.results161 ?_
     exact .c _
   have f1 : decide (n < 0) = false := by simpa using h1
   obtain ⟨m, rfl⟩ : ∃ m : Nat, n = (m : Int) := ⟨n.toNat, by omega⟩
   by_cases h2 : many ≤ m
   · have f2 : decide ((m : Int) ≥ (many : Int)) = true := by simp; omega
     refine ⟨0, q, 11, ⟨a1.le, a1.up, fun h0 => absurd he h0⟩, .inr rfl, ?_⟩
     unfold rB at *
     refine VC.toldX ent_161 [] Tryz.func161 rfl Tryz.ntmps161 fun hb hbL => ?_
     clear hb hbL
     refine walkB ?_
     refine walkL [1000000] (hL) ?_
     refine walkBF (And.intro f1 f2) ?_
     refine retX Tryz.results161 ?_
     exact .c _
   · have f2 : decide ((m : Int) ≥ (many : Int)) = false := by simp; omega
     refine ⟨m, q, 0, a1, .inl (by omega), ?_⟩
     unfold rB at *
     refine VC.toldX ent_161 [] Tryz.func161 rfl Tryz.ntmps161 fun hb hbL => ?_
     clear hb hbL
     refine walkB ?_
     refine walkL [1000000] (hL) ?_
     refine walkBF (And.intro f1 f2) ?_
     refine retX Tryz.results161 ?_
     exact .c _
 · have f5 : (e1 == 0) = false := by simpa using h
   have f6 : (e1 != 0) = true := by simpa using h
   refine ⟨0, q, e1, a1, .inr rfl, ?_⟩
   unfold rB at *
   refine VC.toldX ent_161 [] Tryz.func161 rfl Tryz.ntmps161 fun hb hbL => ?_
   clear hb hbL
   refine walkB ?_
   refine walkL [1000000] (hL) ?_
   refine walkBF (And.intro f5 f6) ?_
   refine retX Tryz.results161 ?_
   exact .c _
theorem rplacei_told (B : List UInt8) (hB : B.length ≤ 1000000) (p : Nat) (hp : p ≤ B.length) (e : Int) (many : Nat) : ∃ (n q : Nat) (e' : Int), Adv B p e q e' ∧ (n < many ∨ n = 0) ∧
  ToldM Tryz.prog 161 [.ref 1000000 1 0 0, .c (.v (.bool false)), .c (.v (.int .i64 (many : Int)))] [rB B p e] [some (rB B q e')] (.c (.v (.int .i64 (n : Int)))) := by
 obtain ⟨n, q, e1, a1, a2, a3, a4, hL⟩ := r4int_told B hB p hp e
 by_cases h : e1 = 0
 · subst h
   have he : e = 0 := Decidable.not_not.1 fun h0 => h0 ((a1.no h0).2.symm)
   by_cases h1 : n < 0
   · have f1 : decide (n < 0) = true := by simpa using h1
     refine ⟨0, q, 11, ⟨a1.le, a1.up, fun h0 => absurd he h0⟩, .inr rfl, ?_⟩
     unfold rB at *
     refine VC.toldX ent_161 [] Tryz.func161 rfl Tryz.ntmps161 fun hb hbL => ?_
     clear hb hbL
     refine walkB ?_
     refine walkL [1000000] (hL) ?_
     refine walkBF (f1) ?_
     refine retX Tryz.results161 ?_
     exact .c _
   have f1 : decide (n < 0) = false := by simpa using h1
   obtain ⟨m, rfl⟩ : ∃ m : Nat, n = (m : Int) := ⟨n.toNat, by omega⟩
   by_cases h2 : many ≤ m
   · have f2 : decide ((m : Int) ≥ (many : Int)) = true := by simp; omega
     refine ⟨0, q, 11, ⟨a1.le, a1.up, fun h0 => absurd he h0⟩, .inr rfl, ?_⟩
     unfold rB at *
     refine VC.toldX ent_161 [] Tryz.func161 rfl Tryz.ntmps161 fun hb hbL => ?_
     clear hb hbL
     refine walkB ?_
     refine walkL [1000000] (hL) ?_
     refine walkBF (And.intro f1 f2) ?_
     refine retX Tryz.results161 ?_
     exact .c _
   · have f2 : decide ((m : Int) ≥ (many : Int)) = false := by simp; omega
     refine ⟨m, q, 0, a1, .inl (by omega), ?_⟩
     unfold rB at *
     refine VC.toldX ent_161 [] Tryz.func161 rfl Tryz.ntmps161 fun hb hbL => ?_
     clear hb hbL
     refine walkB ?_
     refine walkL [1000000] (hL) ?_
     refine walkBF (And.intro f1 f2) ?_
     refine retX Tryz.results161 ?_
     exact .c _
 · have f5 : (e1 == 0) = false := by simpa using h
   have f6 : (e1 != 0) = true := by simpa using h
   refine ⟨0, q, e1, a1, .inr rfl, ?_⟩
   unfold rB at *
   refine VC.toldX ent_161 [] Tryz.func161 rfl Tryz.ntmps161 fun hb hbL => ?_
   clear hb hbL
   refine walkB ?_
   refine walkL [1000000] (hL) ?_
   refine walkBF (And.intro f5 f6) ?_
   refine retX Tryz.results161 ?_
   exact .c _
def LeafR (s : ST) (a : Int) (dep : Nat) (B : List UInt8) (p : Nat) (e : Int) : Prop := ∃ (v : VT) (q : Nat) (e' : Int), Adv B p e q e' ∧
 ToldM Tryz.prog 160 [s.av, .c (.v (.int .i64 a)), .c (.v (.int .i64 (dep : Int))), .ref 1000000 1 0 0] [rB B p e] [some (rB B q e')] v.av
theorem rleaf2_told (s : ST) (B : List UInt8) (hB : B.length ≤ 1000000) (a : Nat) (nd : NT) (hnd : s.nodes[a]? = some nd) (hk : nd.kind = 2) (dep : Nat) (p : Nat) (hp : p ≤ B.length) : LeafR s (a : Int) dep B p 0 := by
 have hnp : (s.nodes.map NT.cells)[a]? = some nd.cells := by rw [List.getElem?_map, hnd]; rfl
 have ha : a < s.nodes.length := (List.getElem?_eq_some_iff.1 hnd).1
 have g9 : decide (nd.kind ≥ 9) = false := by rw [hk]; rfl
 have e2 : (nd.kind == 2) = true := by rw [hk]; rfl
 obtain ⟨n, q, e1, a1, hT⟩ := r4bool_told B hB p hp 0
 refine ⟨.mk nd.kind n 0 [] [] [], q, e1, a1, ?_⟩
 rw [VT.av_eq, vcells_mk, ST.av_eq, scells_mk]
 unfold rB at *
 refine VC.toldX ent_160 [] Tryz.func160 rfl Tryz.ntmps160 fun hb hbL => ?_
 clear hb hbL
 refine walkBF (And.intro hnp (And.intro @ncells_mk (And.intro @len_ncells (And.intro e2 g9)))) ?_
 refine walkLF (@ncells_mk) [1000000] (hT) ?_
 refine walkBF (@ncells_mk) ?_
 refine retX Tryz.results160 ?_
 exact Frz.aggL (.cons (.c _) (.cons (.c _) (.cons (.c _) (.cons (.nil 1) (.cons (.nil 6) (.cons (.nil 1) .nil))))))
theorem rleaf3_told (s : ST) (B : List UInt8) (hB : B.length ≤ 1000000) (a : Nat) (nd : NT) (hnd : s.nodes[a]? = some nd) (hk : nd.kind = 3) (dep : Nat) (p : Nat) (hp : p ≤ B.length) : LeafR s (a : Int) dep B p 0 := by
 have hnp : (s.nodes.map NT.cells)[a]? = some nd.cells := by rw [List.getElem?_map, hnd]; rfl
 have ha : a < s.nodes.length := (List.getElem?_eq_some_iff.1 hnd).1
 have g9 : decide (nd.kind ≥ 9) = false := by rw [hk]; rfl
 have e2 : (nd.kind == 2) = false := by rw [hk]; rfl
 have e3 : (nd.kind == 3) = true := by rw [hk]; rfl
 obtain ⟨n, q, e1, a1, _, _, _, hT⟩ := r4int_told B hB p hp 0
 refine ⟨.mk nd.kind n 0 [] [] [], q, e1, a1, ?_⟩
 rw [VT.av_eq, vcells_mk, ST.av_eq, scells_mk]
 unfold rB at *
 refine VC.toldX ent_160 [] Tryz.func160 rfl Tryz.ntmps160 fun hb hbL => ?_
 clear hb hbL
 refine walkBF (And.intro hnp (And.intro @ncells_mk (And.intro @len_ncells (And.intro e2 (And.intro e3 g9))))) ?_
 refine walkLF (@ncells_mk) [1000000] (hT) ?_
 refine walkBF (@ncells_mk) ?_
 refine retX Tryz.results160 ?_
 exact Frz.aggL (.cons (.c _) (.cons (.c _) (.cons (.c _) (.cons (.nil 1) (.cons (.nil 6) (.cons (.nil 1) .nil))))))
theorem rleaf4_told (s : ST) (B : List UInt8) (hB : B.length ≤ 1000000) (a : Nat) (nd : NT) (hnd : s.nodes[a]? = some nd) (hk : nd.kind = 4) (dep : Nat) (p : Nat) (hp : p ≤ B.length) : LeafR s (a : Int) dep B p 0 := by
 have hnp : (s.nodes.map NT.cells)[a]? = some nd.cells := by rw [List.getElem?_map, hnd]; rfl
 have ha : a < s.nodes.length := (List.getElem?_eq_some_iff.1 hnd).1
 have g9 : decide (nd.kind ≥ 9) = false := by rw [hk]; rfl
 have e2 : (nd.kind == 2) = false := by rw [hk]; rfl
 have e3 : (nd.kind == 3) = false := by rw [hk]; rfl
 have e4 : (nd.kind == 4) = true := by rw [hk]; rfl
 obtain ⟨n, q, e1, a1, _, _, _, hT⟩ := r4long_told B hB p hp 0
 refine ⟨.mk nd.kind n 0 [] [] [], q, e1, a1, ?_⟩
 rw [VT.av_eq, vcells_mk, ST.av_eq, scells_mk]
 unfold rB at *
 refine VC.toldX ent_160 [] Tryz.func160 rfl Tryz.ntmps160 fun hb hbL => ?_
 clear hb hbL
 refine walkBF (And.intro hnp (And.intro @ncells_mk (And.intro @len_ncells (And.intro e2 (And.intro e3 (And.intro e4 g9)))))) ?_
 refine walkLF (@ncells_mk) [1000000] (hT) ?_
 refine walkBF (@ncells_mk) ?_
 refine retX Tryz.results160 ?_
 exact Frz.aggL (.cons (.c _) (.cons (.c _) (.cons (.c _) (.cons (.nil 1) (.cons (.nil 6) (.cons (.nil 1) .nil))))))
theorem rleaf5_told (s : ST) (B : List UInt8) (hB : B.length ≤ 1000000) (a : Nat) (nd : NT) (hnd : s.nodes[a]? = some nd) (hk : nd.kind = 5) (dep : Nat) (p : Nat) (hp : p ≤ B.length) : LeafR s (a : Int) dep B p 0 := by
 have hnp : (s.nodes.map NT.cells)[a]? = some nd.cells := by rw [List.getElem?_map, hnd]; rfl
 have ha : a < s.nodes.length := (List.getElem?_eq_some_iff.1 hnd).1
 have g9 : decide (nd.kind ≥ 9) = false := by rw [hk]; rfl
 have e2 : (nd.kind == 2) = false := by rw [hk]; rfl
 have e3 : (nd.kind == 3) = false := by rw [hk]; rfl
 have e4 : (nd.kind == 4) = false := by rw [hk]; rfl
 have e5 : (nd.kind == 5) = true := by rw [hk]; rfl
 obtain ⟨n, q, e1, a1, hT⟩ := r4bits_told B hB p hp 0 4 (by decide)
 rw [show ((4 : Nat) : Int) = 4 from rfl] at hT
 refine ⟨.mk nd.kind 0 n [] [] [], q, e1, a1, ?_⟩
 rw [VT.av_eq, vcells_mk, ST.av_eq, scells_mk]
 unfold rB at *
 refine VC.toldX ent_160 [] Tryz.func160 rfl Tryz.ntmps160 fun hb hbL => ?_
 clear hb hbL
 refine walkBF (And.intro hnp (And.intro @ncells_mk (And.intro @len_ncells (And.intro e2 (And.intro e3 (And.intro e4 (And.intro e5 g9))))))) ?_
 refine walkLF (@ncells_mk) [1000000] (hT) ?_
 refine walkBF (@ncells_mk) ?_
 refine retX Tryz.results160 ?_
 exact Frz.aggL (.cons (.c _) (.cons (.c _) (.cons (.c _) (.cons (.nil 1) (.cons (.nil 6) (.cons (.nil 1) .nil))))))
theorem rleaf6_told (s : ST) (B : List UInt8) (hB : B.length ≤ 1000000) (a : Nat) (nd : NT) (hnd : s.nodes[a]? = some nd) (hk : nd.kind = 6) (dep : Nat) (p : Nat) (hp : p ≤ B.length) : LeafR s (a : Int) dep B p 0 := by
 have hnp : (s.nodes.map NT.cells)[a]? = some nd.cells := by rw [List.getElem?_map, hnd]; rfl
 have ha : a < s.nodes.length := (List.getElem?_eq_some_iff.1 hnd).1
 have g9 : decide (nd.kind ≥ 9) = false := by rw [hk]; rfl
 have e2 : (nd.kind == 2) = false := by rw [hk]; rfl
 have e3 : (nd.kind == 3) = false := by rw [hk]; rfl
 have e4 : (nd.kind == 4) = false := by rw [hk]; rfl
 have e5 : (nd.kind == 5) = false := by rw [hk]; rfl
 have e6 : (nd.kind == 6) = true := by rw [hk]; rfl
 obtain ⟨n, q, e1, a1, hT⟩ := r4bits_told B hB p hp 0 8 (by decide)
 rw [show ((8 : Nat) : Int) = 8 from rfl] at hT
 refine ⟨.mk nd.kind 0 n [] [] [], q, e1, a1, ?_⟩
 rw [VT.av_eq, vcells_mk, ST.av_eq, scells_mk]
 unfold rB at *
 refine VC.toldX ent_160 [] Tryz.func160 rfl Tryz.ntmps160 fun hb hbL => ?_
 clear hb hbL
 refine walkBF (And.intro hnp (And.intro @ncells_mk (And.intro @len_ncells (And.intro e2 (And.intro e3 (And.intro e4 (And.intro e5 (And.intro e6 g9)))))))) ?_
 refine walkLF (@ncells_mk) [1000000] (hT) ?_
 refine walkBF (@ncells_mk) ?_
 refine retX Tryz.results160 ?_
 exact Frz.aggL (.cons (.c _) (.cons (.c _) (.cons (.c _) (.cons (.nil 1) (.cons (.nil 6) (.cons (.nil 1) .nil))))))
theorem rleaf7_told (s : ST) (B : List UInt8) (hB : B.length ≤ 1000000) (a : Nat) (nd : NT) (hnd : s.nodes[a]? = some nd) (hk : nd.kind = 7) (dep : Nat) (p : Nat) (hp : p ≤ B.length) : LeafR s (a : Int) dep B p 0 := by
 have hnp : (s.nodes.map NT.cells)[a]? = some nd.cells := by rw [List.getElem?_map, hnd]; rfl
 have ha : a < s.nodes.length := (List.getElem?_eq_some_iff.1 hnd).1
 have g9 : decide (nd.kind ≥ 9) = false := by rw [hk]; rfl
 have e2 : (nd.kind == 2) = false := by rw [hk]; rfl
 have e3 : (nd.kind == 3) = false := by rw [hk]; rfl
 have e4 : (nd.kind == 4) = false := by rw [hk]; rfl
 have e5 : (nd.kind == 5) = false := by rw [hk]; rfl
 have e6 : (nd.kind == 6) = false := by rw [hk]; rfl
 have e7 : (nd.kind == 7) = true := by rw [hk]; rfl
 obtain ⟨n, q, e1, a1, _, hT⟩ := r4bytes_told B hB p hp 0
 refine ⟨.mk nd.kind 0 0 n [] [], q, e1, a1, ?_⟩
 rw [VT.av_eq, vcells_mk, ST.av_eq, scells_mk]
 unfold rB at *
 refine VC.toldX ent_160 [] Tryz.func160 rfl Tryz.ntmps160 fun hb hbL => ?_
 clear hb hbL
 refine walkBF (And.intro hnp (And.intro @ncells_mk (And.intro @len_ncells (And.intro e2 (And.intro e3 (And.intro e4 (And.intro e5 (And.intro e6 (And.intro e7 g9))))))))) ?_
 refine walkLF (@ncells_mk) [1000000] (hT) ?_
 refine walkBF (@ncells_mk) ?_
 refine retX Tryz.results160 ?_
 exact Frz.aggL (.cons (.c _) (.cons (.c _) (.cons (.c _) (.cons (.c _) (.cons (.nil 6) (.cons (.nil 1) .nil))))))
theorem rleaf8_told (s : ST) (B : List UInt8) (hB : B.length ≤ 1000000) (a : Nat) (nd : NT) (hnd : s.nodes[a]? = some nd) (hk : nd.kind = 8) (dep : Nat) (p : Nat) (hp : p ≤ B.length) : LeafR s (a : Int) dep B p 0 := by
 have hnp : (s.nodes.map NT.cells)[a]? = some nd.cells := by rw [List.getElem?_map, hnd]; rfl
 have ha : a < s.nodes.length := (List.getElem?_eq_some_iff.1 hnd).1
 have g9 : decide (nd.kind ≥ 9) = false := by rw [hk]; rfl
 have e2 : (nd.kind == 2) = false := by rw [hk]; rfl
 have e3 : (nd.kind == 3) = false := by rw [hk]; rfl
 have e4 : (nd.kind == 4) = false := by rw [hk]; rfl
 have e5 : (nd.kind == 5) = false := by rw [hk]; rfl
 have e6 : (nd.kind == 6) = false := by rw [hk]; rfl
 have e7 : (nd.kind == 7) = false := by rw [hk]; rfl
 have e8 : (nd.kind == 8) = true := by rw [hk]; rfl
 obtain ⟨n, q, e1, a1, hT⟩ := r4text_told B hB p hp 0
 refine ⟨.mk nd.kind 0 0 n [] [], q, e1, a1, ?_⟩
 rw [VT.av_eq, vcells_mk, ST.av_eq, scells_mk]
 unfold rB at *
 refine VC.toldX ent_160 [] Tryz.func160 rfl Tryz.ntmps160 fun hb hbL => ?_
 clear hb hbL
 refine walkBF (And.intro hnp (And.intro @ncells_mk (And.intro @len_ncells (And.intro e2 (And.intro e3 (And.intro e4 (And.intro e5 (And.intro e6 (And.intro e7 (And.intro e8 g9)))))))))) ?_
 refine walkLF (@ncells_mk) [1000000] (hT) ?_
 refine walkBF (@ncells_mk) ?_
 refine retX Tryz.results160 ?_
 exact Frz.aggL (.cons (.c _) (.cons (.c _) (.cons (.c _) (.cons (.c _) (.cons (.nil 6) (.cons (.nil 1) .nil))))))
theorem rleaf14_told (s : ST) (B : List UInt8) (hB : B.length ≤ 1000000) (a : Nat) (nd : NT) (hnd : s.nodes[a]? = some nd) (hk : nd.kind = 14) (hsz : -1000000000 ≤ nd.size ∧ nd.size ≤ 1000000000) (dep : Nat) (p : Nat) (hp : p ≤ B.length) : LeafR s (a : Int) dep B p 0 := by
 have hnp : (s.nodes.map NT.cells)[a]? = some nd.cells := by rw [List.getElem?_map, hnd]; rfl
 have ha : a < s.nodes.length := (List.getElem?_eq_some_iff.1 hnd).1
 have g9 : decide (nd.kind ≥ 9) = true := by rw [hk]; rfl
 have g10 : (nd.kind != 10) = true := by rw [hk]; rfl
 have g14 : (nd.kind != 14) = false := by rw [hk]; rfl
 have e2 : (nd.kind == 2) = false := by rw [hk]; rfl
 have e3 : (nd.kind == 3) = false := by rw [hk]; rfl
 have e4 : (nd.kind == 4) = false := by rw [hk]; rfl
 have e5 : (nd.kind == 5) = false := by rw [hk]; rfl
 have e6 : (nd.kind == 6) = false := by rw [hk]; rfl
 have e7 : (nd.kind == 7) = false := by rw [hk]; rfl
 have e8 : (nd.kind == 8) = false := by rw [hk]; rfl
 have e14 : (nd.kind == 14) = true := by rw [hk]; rfl
 obtain ⟨n, q, e1, a1, _, _, hT⟩ := r4fixed_told B hB p hp 0 nd.size hsz.1 hsz.2
 refine ⟨.mk nd.kind 0 0 n [] [], q, e1, a1, ?_⟩
 rw [VT.av_eq, vcells_mk, ST.av_eq, scells_mk]
 unfold rB at *
 refine VC.toldX ent_160 [] Tryz.func160 rfl Tryz.ntmps160 fun hb hbL => ?_
 clear hb hbL
 refine walkBF (And.intro hnp (And.intro @ncells_mk (And.intro @len_ncells (And.intro e2 (And.intro e3 (And.intro e4 (And.intro e5 (And.intro e6 (And.intro e7 (And.intro e8 (And.intro e14 (And.intro g9 (And.intro g10 g14))))))))))))) ?_
 refine walkLF (@ncells_mk) [1000000] (hT) ?_
 refine walkBF (@ncells_mk) ?_
 refine retX Tryz.results160 ?_
 exact Frz.aggL (.cons (.c _) (.cons (.c _) (.cons (.c _) (.cons (.c _) (.cons (.nil 6) (.cons (.nil 1) .nil))))))
theorem rleaf10_told (s : ST) (B : List UInt8) (hB : B.length ≤ 1000000) (a : Nat) (nd : NT) (hnd : s.nodes[a]? = some nd) (hk : nd.kind = 10) (dep : Nat) (p : Nat) (hp : p ≤ B.length) : LeafR s (a : Int) dep B p 0 := by
 have hnp : (s.nodes.map NT.cells)[a]? = some nd.cells := by rw [List.getElem?_map, hnd]; rfl
 have ha : a < s.nodes.length := (List.getElem?_eq_some_iff.1 hnd).1
 have g9 : decide (nd.kind ≥ 9) = true := by rw [hk]; rfl
 have g10 : (nd.kind != 10) = false := by rw [hk]; rfl
 have e2 : (nd.kind == 2) = false := by rw [hk]; rfl
 have e3 : (nd.kind == 3) = false := by rw [hk]; rfl
 have e4 : (nd.kind == 4) = false := by rw [hk]; rfl
 have e5 : (nd.kind == 5) = false := by rw [hk]; rfl
 have e6 : (nd.kind == 6) = false := by rw [hk]; rfl
 have e7 : (nd.kind == 7) = false := by rw [hk]; rfl
 have e8 : (nd.kind == 8) = false := by rw [hk]; rfl
 have e14 : (nd.kind == 14) = false := by rw [hk]; rfl
 have e10 : (nd.kind == 10) = true := by rw [hk]; rfl
 obtain ⟨n, q, e1, a1, hn, hT⟩ := rplacei_told B hB p hp 0 nd.symbols.length
 refine ⟨.mk nd.kind (n : Int) 0 [] [] [], q, e1, a1, ?_⟩
 rw [VT.av_eq, vcells_mk, ST.av_eq, scells_mk]
 unfold rB at *
 refine VC.toldX ent_160 [] Tryz.func160 rfl Tryz.ntmps160 fun hb hbL => ?_
 clear hb hbL
 refine walkBF (And.intro hnp (And.intro @ncells_mk (And.intro @len_ncells (And.intro e2 (And.intro e3 (And.intro e4 (And.intro e5 (And.intro e6 (And.intro e7 (And.intro e8 (And.intro e14 (And.intro e10 (And.intro g9 g10))))))))))))) ?_
 refine walkLF (@ncells_mk) [1000000] (hT) ?_
 refine walkBF (@ncells_mk) ?_
 refine retX Tryz.results160 ?_
 exact Frz.aggL (.cons (.c _) (.cons (.c _) (.cons (.c _) (.cons (.nil 1) (.cons (.nil 6) (.cons (.nil 1) .nil))))))
theorem rleaf1_told (s : ST) (B : List UInt8) (hB : B.length ≤ 1000000) (a : Nat) (nd : NT) (hnd : s.nodes[a]? = some nd) (hk : nd.kind = 1) (dep : Nat) (p : Nat) (hp : p ≤ B.length) : LeafR s (a : Int) dep B p 0 := by
 have hnp : (s.nodes.map NT.cells)[a]? = some nd.cells := by rw [List.getElem?_map, hnd]; rfl
 have ha : a < s.nodes.length := (List.getElem?_eq_some_iff.1 hnd).1
 have g9 : decide (nd.kind ≥ 9) = false := by rw [hk]; rfl
 have e2 : (nd.kind == 2) = false := by rw [hk]; rfl
 have e3 : (nd.kind == 3) = false := by rw [hk]; rfl
 have e4 : (nd.kind == 4) = false := by rw [hk]; rfl
 have e5 : (nd.kind == 5) = false := by rw [hk]; rfl
 have e6 : (nd.kind == 6) = false := by rw [hk]; rfl
 have e7 : (nd.kind == 7) = false := by rw [hk]; rfl
 have e8 : (nd.kind == 8) = false := by rw [hk]; rfl
 have e14 : (nd.kind == 14) = false := by rw [hk]; rfl
 have e10 : (nd.kind == 10) = false := by rw [hk]; rfl
 have e9 : (nd.kind == 9) = false := by rw [hk]; rfl
 have e11 : (nd.kind == 11) = false := by rw [hk]; rfl
 have e12 : (nd.kind == 12) = false := by rw [hk]; rfl
 have e13 : (nd.kind == 13) = false := by rw [hk]; rfl
 refine ⟨.mk nd.kind 0 0 [] [] [], p, 0, ⟨hp, Nat.le_refl _, fun h => absurd rfl h⟩, ?_⟩
 rw [VT.av_eq, vcells_mk, ST.av_eq, scells_mk]
 unfold rB at *
 refine VC.toldX ent_160 [] Tryz.func160 rfl Tryz.ntmps160 fun hb hbL => ?_
 clear hb hbL
 refine walkBF (And.intro hnp (And.intro @ncells_mk (And.intro @len_ncells (And.intro g9 (And.intro e2 (And.intro e3 (And.intro e4 (And.intro e5 (And.intro e6 (And.intro e7 (And.intro e8 (And.intro e14 (And.intro e10 (And.intro e9 (And.intro e11 (And.intro e12 e13)))))))))))))))) ?_
 refine retX Tryz.results160 ?_
 exact Frz.aggL (.cons (.c _) (.cons (.c _) (.cons (.c _) (.cons (.nil 1) (.cons (.nil 6) (.cons (.nil 1) .nil))))))
theorem rleafe_told (s : ST) (B : List UInt8) (a : Nat) (nd : NT) (hnd : s.nodes[a]? = some nd) (hk : nd.kind < 9 ∨ nd.kind = 10 ∨ nd.kind = 14) (dep : Nat) (p : Nat) (hp : p ≤ B.length) (e : Int) (he : e ≠ 0) : LeafR s (a : Int) dep B p e := by
 have hnp : (s.nodes.map NT.cells)[a]? = some nd.cells := by rw [List.getElem?_map, hnd]; rfl
 have ha : a < s.nodes.length := (List.getElem?_eq_some_iff.1 hnd).1
 have f1 : (e != 0) = true := by simpa using he
 refine ⟨.mk nd.kind 0 0 [] [] [], p, e, ⟨hp, Nat.le_refl _, fun _ => ⟨rfl, rfl⟩⟩, ?_⟩
 rw [VT.av_eq, vcells_mk, ST.av_eq, scells_mk]
 unfold rB at *
 rcases hk with hk | hk | hk
 · have g9 : decide (nd.kind ≥ 9) = false := by simp; omega
   refine VC.toldX ent_160 [] Tryz.func160 rfl Tryz.ntmps160 fun hb hbL => ?_
   clear hb hbL
   refine walkBF (And.intro hnp (And.intro @ncells_mk (And.intro @len_ncells (And.intro g9 f1)))) ?_
   refine retX Tryz.results160 ?_
   exact Frz.aggL (.cons (.c _) (.cons (.c _) (.cons (.c _) (.cons (.nil 1) (.cons (.nil 6) (.cons (.nil 1) .nil))))))
 · have g9 : decide (nd.kind ≥ 9) = true := by rw [hk]; rfl
   have g10 : (nd.kind != 10) = false := by rw [hk]; rfl
   refine VC.toldX ent_160 [] Tryz.func160 rfl Tryz.ntmps160 fun hb hbL => ?_
   clear hb hbL
   refine walkBF (And.intro hnp (And.intro @ncells_mk (And.intro @len_ncells (And.intro g9 (And.intro g10 f1))))) ?_
   refine retX Tryz.results160 ?_
   exact Frz.aggL (.cons (.c _) (.cons (.c _) (.cons (.c _) (.cons (.nil 1) (.cons (.nil 6) (.cons (.nil 1) .nil))))))
 · have g9 : decide (nd.kind ≥ 9) = true := by rw [hk]; rfl
   have g10 : (nd.kind != 10) = true := by rw [hk]; rfl
   have g14 : (nd.kind != 14) = false := by rw [hk]; rfl
   refine VC.toldX ent_160 [] Tryz.func160 rfl Tryz.ntmps160 fun hb hbL => ?_
   clear hb hbL
   refine walkBF (And.intro hnp (And.intro @ncells_mk (And.intro @len_ncells (And.intro g9 (And.intro g10 (And.intro g14 f1)))))) ?_
   refine retX Tryz.results160 ?_
   exact Frz.aggL (.cons (.c _) (.cons (.c _) (.cons (.c _) (.cons (.nil 1) (.cons (.nil 6) (.cons (.nil 1) .nil))))))

def runF (lf : Int → Int → Nat → Int → Int × Nat × Int) : List FT → Int → Nat → Int → Int × Nat × Int
 | [], L, p, e => (L, p, e)
 | t :: ts, L, p, e => if 0 ≤ L then runF lf ts (lf t.type L p e).1 (lf t.type L p e).2.1 (lf t.type L p e).2.2 else (L, p, e)
def runI (step : Int → Nat → Int × Nat × Int) : Nat → Nat → Int → Nat → Int → Nat × Int × Nat × Int
 | 0, h, L, p, e => (h, L, p, e)
 | m + 1, h, L, p, e => if e = 0 ∧ 0 ≤ L then runI step m (h + 1) (step L p).1 (step L p).2.1 (step L p).2.2 else (h, L, p, e)
def runO (step : Int → Nat → Int × Nat × Int) (cnt : Nat → Nat → Int → Nat × Nat × Int) : Nat → Nat → Nat → Int → Nat → Int → Int × Nat × Int
 | 0, m, h, L, p, e => (L, p, e)
 | k + 1, m, h, L, p, e => if 0 < m ∧ 0 ≤ L then
   runO step cnt k (cnt (runI step m h L p e).1 (runI step m h L p e).2.2.1 (runI step m h L p e).2.2.2).1 (runI step m h L p e).1 (runI step m h L p e).2.1
    (cnt (runI step m h L p e).1 (runI step m h L p e).2.2.1 (runI step m h L p e).2.2.2).2.1 (cnt (runI step m h L p e).1 (runI step m h L p e).2.2.1 (runI step m h L p e).2.2.2).2.2
   else (L, p, e)
theorem runI_end {step : Int → Nat → Int × Nat × Int} {m h : Nat} {L : Int} {p : Nat} {e : Int} (hm : m = 0 ∨ ¬ (e = 0 ∧ 0 ≤ L)) : runI step m h L p e = (h, L, p, e) := by
 cases m with
 | zero => rfl
 | succ m =>
   rw [runI, if_neg]
   rcases hm with hm | hm
   · omega
   · exact hm
def StepL (B : List UInt8) (step : Int → Nat → Int × Nat × Int) : Prop := ∀ L p, 0 ≤ L → L ≤ 200000 → p ≤ B.length → p ≤ (step L p).2.1 ∧ (step L p).2.1 ≤ B.length ∧ -1 ≤ (step L p).1 ∧ (step L p).1 ≤ L
theorem runI_ok {B : List UInt8} {step : Int → Nat → Int × Nat × Int} (hs : StepL B step) : ∀ (m h : Nat) (L : Int) (p : Nat) (e : Int), -1 ≤ L → L ≤ 200000 → p ≤ B.length →
  h ≤ (runI step m h L p e).1 ∧ (runI step m h L p e).1 ≤ h + m ∧ -1 ≤ (runI step m h L p e).2.1 ∧ (runI step m h L p e).2.1 ≤ L ∧ p ≤ (runI step m h L p e).2.2.1 ∧ (runI step m h L p e).2.2.1 ≤ B.length
 | 0, h, L, p, e, h1, h2, h3 => by rw [runI]; simp only []; omega
 | m + 1, h, L, p, e, h1, h2, h3 => by
   rw [runI]
   split
   · rename_i hc
     obtain ⟨a1, a2, a3, a4⟩ := hs L p hc.2 h2 h3
     have := runI_ok hs m (h + 1) (step L p).1 (step L p).2.1 (step L p).2.2 a3 (by omega) a2
     omega
   · simp only []; omega
theorem runF_ok {B : List UInt8} {lf : Int → Int → Nat → Int → Int × Nat × Int} : ∀ (ts : List FT) (hs : ∀ t ∈ ts, ∀ L p e, 0 ≤ L → L ≤ 200000 → p ≤ B.length → p ≤ (lf t.type L p e).2.1 ∧ (lf t.type L p e).2.1 ≤ B.length ∧ -1 ≤ (lf t.type L p e).1 ∧ (lf t.type L p e).1 ≤ L) (L : Int) (p : Nat) (e : Int), -1 ≤ L → L ≤ 200000 → p ≤ B.length →
  -1 ≤ (runF lf ts L p e).1 ∧ (runF lf ts L p e).1 ≤ L ∧ p ≤ (runF lf ts L p e).2.1 ∧ (runF lf ts L p e).2.1 ≤ B.length
 | [], hs, L, p, e, h1, h2, h3 => by rw [runF]; simp only []; omega
 | t :: ts, hs, L, p, e, h1, h2, h3 => by
   rw [runF]
   split
   · rename_i hc
     obtain ⟨a1, a2, a3, a4⟩ := hs t (by simp) L p e hc h2 h3
     have := runF_ok ts (fun t ht => hs t (by simp [ht])) (lf t.type L p e).1 (lf t.type L p e).2.1 (lf t.type L p e).2.2 a3 (by omega) a2
     omega
   · simp only []; omega
def CntL (B : List UInt8) (cnt : Nat → Nat → Int → Nat × Nat × Int) : Prop := ∀ h p e, h ≤ 300 → p ≤ B.length → p ≤ (cnt h p e).2.1 ∧ (cnt h p e).2.1 ≤ B.length ∧ (cnt h p e).1 + h ≤ 300 ∧ ((cnt h p e).2.2 ≠ 0 → (cnt h p e).1 = 0)
theorem runO_ok {B : List UInt8} {step : Int → Nat → Int × Nat × Int} (hs : StepL B step) {cnt : Nat → Nat → Int → Nat × Nat × Int} (hc : CntL B cnt) : ∀ (k m h : Nat) (L : Int) (p : Nat) (e : Int), m + h ≤ 300 → -1 ≤ L → L ≤ 200000 → p ≤ B.length →
  -1 ≤ (runO step cnt k m h L p e).1 ∧ (runO step cnt k m h L p e).1 ≤ L ∧ p ≤ (runO step cnt k m h L p e).2.1 ∧ (runO step cnt k m h L p e).2.1 ≤ B.length
 | 0, m, h, L, p, e, h0, h1, h2, h3 => by rw [runO]; simp only []; omega
 | k + 1, m, h, L, p, e, h0, h1, h2, h3 => by
   rw [runO]
   split
   · obtain ⟨a1, a2, a3, a4, a5, a6⟩ := runI_ok hs m h L p e h1 h2 h3
     generalize runI step m h L p e = R at a1 a2 a3 a4 a5 a6
     obtain ⟨b1, b2, b3, _⟩ := hc R.1 R.2.2.1 R.2.2.2 (by omega) a6
     have := runO_ok hs hc k (cnt R.1 R.2.2.1 R.2.2.2).1 R.1 R.2.1 (cnt R.1 R.2.2.1 R.2.2.2).2.1 (cnt R.1 R.2.2.1 R.2.2.2).2.2 b3 a3 (by omega) b2
     omega
   · simp only []; omega
def LfT (s : ST) (B : List UInt8) (a : Int) (dep : Nat) (lf : Int → Nat → Int → Int × Nat × Int) : Prop := ∀ L p e, 0 ≤ L → L ≤ 200000 → p ≤ B.length →
 Adv B p e (lf L p e).2.1 (lf L p e).2.2 ∧ -1 ≤ (lf L p e).1 ∧ (lf L p e).1 ≤ L ∧
 ToldM Tryz.prog 105 [s.av, .c (.v (.int .i64 a)), .c (.v (.int .i64 (dep : Int))), .c (.v (.int .i64 L)), .ref 1000000 1 0 0] [rB B p e] [some (rB B (lf L p e).2.1 (lf L p e).2.2)] (.c (.v (.int .i64 (lf L p e).1)))
def LfE (s : ST) (B : List UInt8) (a : Int) (dep : Nat) (L : Int) (p : Nat) (e : Int) : Prop := ∃ (L' : Int) (q : Nat) (e' : Int), Adv B p e q e' ∧ -1 ≤ L' ∧ L' ≤ L ∧
 ToldM Tryz.prog 105 [s.av, .c (.v (.int .i64 a)), .c (.v (.int .i64 (dep : Int))), .c (.v (.int .i64 L)), .ref 1000000 1 0 0] [rB B p e] [some (rB B q e')] (.c (.v (.int .i64 L')))
theorem lf_of {s : ST} {B : List UInt8} {dep : Nat} (H : ∀ a : Int, 0 ≤ a → a < (s.nodes.length : Int) → ∀ L p e, 0 ≤ L → L ≤ 200000 → p ≤ B.length → LfE s B a dep L p e) : ∃ lf : Int → Int → Nat → Int → Int × Nat × Int, ∀ a : Int, 0 ≤ a → a < (s.nodes.length : Int) → LfT s B a dep (lf a) := by
 have key : ∀ (a L : Int) (p : Nat) (e : Int), ∃ t : Int × Nat × Int, 0 ≤ a → a < (s.nodes.length : Int) → 0 ≤ L → L ≤ 200000 → p ≤ B.length → Adv B p e t.2.1 t.2.2 ∧ -1 ≤ t.1 ∧ t.1 ≤ L ∧
   ToldM Tryz.prog 105 [s.av, .c (.v (.int .i64 a)), .c (.v (.int .i64 (dep : Int))), .c (.v (.int .i64 L)), .ref 1000000 1 0 0] [rB B p e] [some (rB B t.2.1 t.2.2)] (.c (.v (.int .i64 t.1))) := by
  intro a L p e
  by_cases h : 0 ≤ a ∧ a < (s.nodes.length : Int) ∧ 0 ≤ L ∧ L ≤ 200000 ∧ p ≤ B.length
  · obtain ⟨L', q, e', h1⟩ := H a h.1 h.2.1 L p e h.2.2.1 h.2.2.2.1 h.2.2.2.2
    exact ⟨(L', q, e'), fun _ _ _ _ _ => h1⟩
  · exact ⟨(0, 0, 0), fun h1 h2 h3 h4 h5 => absurd ⟨h1, h2, h3, h4, h5⟩ h⟩
 exact ⟨fun a L p e => Classical.choose (key a L p e), fun a h1 h2 L p e h3 h4 h5 => Classical.choose_spec (key a L p e) h1 h2 h3 h4 h5⟩
/-! Left, kind by kind. -/
theorem rleftl_told (s : ST) (B : List UInt8) (a : Nat) (nd : NT) (hnd : s.nodes[a]? = some nd) (hk : nd.kind < 9 ∨ nd.kind = 10 ∨ nd.kind = 14) (dep : Nat) (L : Int) (h0 : 0 ≤ L) (h1 : L ≤ 200000) (p : Nat) (e : Int) (hl : LeafR s (a : Int) dep B p e) : LfE s B (a : Int) dep L p e := by
 have hnp : (s.nodes.map NT.cells)[a]? = some nd.cells := by rw [List.getElem?_map, hnd]; rfl
 have ha : a < s.nodes.length := (List.getElem?_eq_some_iff.1 hnd).1
 have hw : IntKind.i64.wrap (L - 1) = L - 1 := wrap64_id (by omega) (by omega)
 obtain ⟨v, q, e', a1, hT⟩ := hl
 refine ⟨L - 1, q, e', a1, by omega, by omega, ?_⟩
 rw [ST.av_eq, scells_mk] at *
 unfold rB at *
 rcases hk with hk | hk | hk
 · have g8 : decide (nd.kind ≤ 8) = true := by simp; omega
   refine VC.toldX ent_105 [] Tryz.func105 rfl Tryz.ntmps105 fun hb hbL => ?_
   clear hb hbL
   refine walkBF (And.intro hnp (And.intro @ncells_mk (And.intro @len_ncells (And.intro hw g8)))) ?_
   refine walkLF (@ncells_mk) [1000000] (hT) ?_
   refine walkBF (@ncells_mk) ?_
   refine retX Tryz.results105 ?_
   exact .c _
 · have g8 : decide (nd.kind ≤ 8) = false := by rw [hk]; rfl
   have g10 : (nd.kind == 10) = true := by rw [hk]; rfl
   refine VC.toldX ent_105 [] Tryz.func105 rfl Tryz.ntmps105 fun hb hbL => ?_
   clear hb hbL
   refine walkBF (And.intro hnp (And.intro @ncells_mk (And.intro @len_ncells (And.intro hw (And.intro g8 g10))))) ?_
   refine walkLF (@ncells_mk) [1000000] (hT) ?_
   refine walkBF (@ncells_mk) ?_
   refine retX Tryz.results105 ?_
   exact .c _
 · have g8 : decide (nd.kind ≤ 8) = false := by rw [hk]; rfl
   have g10 : (nd.kind == 10) = false := by rw [hk]; rfl
   have g14 : (nd.kind == 14) = true := by rw [hk]; rfl
   refine VC.toldX ent_105 [] Tryz.func105 rfl Tryz.ntmps105 fun hb hbL => ?_
   clear hb hbL
   refine walkBF (And.intro hnp (And.intro @ncells_mk (And.intro @len_ncells (And.intro hw (And.intro g8 (And.intro g10 g14)))))) ?_
   refine walkLF (@ncells_mk) [1000000] (hT) ?_
   refine walkBF (@ncells_mk) ?_
   refine retX Tryz.results105 ?_
   exact .c _
theorem rleft0_told (s : ST) (B : List UInt8) (a : Nat) (nd : NT) (hnd : s.nodes[a]? = some nd) (hk : nd.kind = 9 ∨ nd.kind = 11 ∨ nd.kind = 12 ∨ nd.kind = 13) (dep : Nat) (L : Int) (h0 : 0 ≤ L) (h1 : L ≤ 200000) (p : Nat) (hp : p ≤ B.length) (e : Int) (hor : dep = 20 ∨ (dep ≠ 20 ∧ (e ≠ 0 ∨ L = 0))) : LfE s B (a : Int) dep L p e := by
 have hnp : (s.nodes.map NT.cells)[a]? = some nd.cells := by rw [List.getElem?_map, hnd]; rfl
 have ha : a < s.nodes.length := (List.getElem?_eq_some_iff.1 hnd).1
 have hw : IntKind.i64.wrap (L - 1) = L - 1 := wrap64_id (by omega) (by omega)
 have g8 : decide (nd.kind ≤ 8) = false := by simp; omega
 have g10 : (nd.kind == 10) = false := by simp; omega
 have g14 : (nd.kind == 14) = false := by simp; omega
 rcases hor with rfl | ⟨hd, he⟩
 · have gd : (((20 : Nat) : Int) == 20) = true := rfl
   by_cases h : e = 0
   · subst h
     refine ⟨L - 1, p, 15, ⟨hp, Nat.le_refl _, fun h => absurd rfl h⟩, by omega, by omega, ?_⟩
     rw [ST.av_eq, scells_mk] at *
     unfold rB at *
     refine VC.toldX ent_105 [] Tryz.func105 rfl Tryz.ntmps105 fun hb hbL => ?_
     clear hb hbL
     refine walkBF (And.intro hnp (And.intro @ncells_mk (And.intro @len_ncells (And.intro hw (And.intro g8 (And.intro g10 (And.intro g14 gd))))))) ?_
     refine retX Tryz.results105 ?_
     exact .c _
   · have f1 : (e == 0) = false := by simpa using h
     have f2 : (e != 0) = true := by simpa using h
     refine ⟨L - 1, p, e, ⟨hp, Nat.le_refl _, fun _ => ⟨rfl, rfl⟩⟩, by omega, by omega, ?_⟩
     rw [ST.av_eq, scells_mk] at *
     unfold rB at *
     refine VC.toldX ent_105 [] Tryz.func105 rfl Tryz.ntmps105 fun hb hbL => ?_
     clear hb hbL
     refine walkBF (And.intro hnp (And.intro @ncells_mk (And.intro @len_ncells (And.intro hw (And.intro g8 (And.intro g10 (And.intro g14 (And.intro gd (And.intro f1 f2))))))))) ?_
     refine retX Tryz.results105 ?_
     exact .c _
 · have gd : ((dep : Int) == 20) = false := by simp; omega
   refine ⟨L - 1, p, e, ⟨hp, Nat.le_refl _, fun _ => ⟨rfl, rfl⟩⟩, by omega, by omega, ?_⟩
   rw [ST.av_eq, scells_mk] at *
   unfold rB at *
   by_cases h : e = 0
   · have hL0 := he.resolve_left fun h' => h' h
     subst h hL0
     have hw' : IntKind.i64.wrap (0 - 1) = -1 := by decide
     have f3 : decide ((-1 : Int) < 0) = true := by decide
     refine VC.toldX ent_105 [] Tryz.func105 rfl Tryz.ntmps105 fun hb hbL => ?_
     clear hb hbL
     refine walkBF (And.intro hnp (And.intro @ncells_mk (And.intro @len_ncells (And.intro hw' (And.intro f3 (And.intro g8 (And.intro g10 (And.intro g14 gd)))))))) ?_
     refine retX Tryz.results105 ?_
     exact .c _
   · have f2 : (e != 0) = true := by simpa using h
     refine VC.toldX ent_105 [] Tryz.func105 rfl Tryz.ntmps105 fun hb hbL => ?_
     clear hb hbL
     refine walkBF (And.intro hnp (And.intro @ncells_mk (And.intro @len_ncells (And.intro hw (And.intro g8 (And.intro g10 (And.intro g14 (And.intro gd f2)))))))) ?_
     refine retX Tryz.results105 ?_
     exact .c _

def foldW (g : Nat → Int) : List FT → Int → Int
 | [], n => n
 | x :: xs, n => foldW g xs (min (n + g x.type.toNat) 1001)
def omg (ns : List NT) : Nat → Nat → Int
 | 0, _ => 1001
 | d + 1, p => foldW (omg ns d) (fieldsAt ns p) 1
theorem foldW_mono {g h : Nat → Int} (hgh : ∀ q, g q ≤ h q) : ∀ (xs : List FT) (n m : Int), n ≤ m → foldW g xs n ≤ foldW h xs m
 | [], n, m, h => h
 | x :: xs, n, m, h => by
   rw [foldW, foldW]
   have := hgh x.type.toNat
   exact foldW_mono hgh xs _ _ (by omega)
theorem foldW_le {g : Nat → Int} : ∀ (xs : List FT) (n : Int), n ≤ 1001 → foldW g xs n ≤ 1001
 | [], n, h => h
 | x :: xs, n, h => by
   rw [foldW]
   exact foldW_le xs _ (by omega)
theorem foldW_ge {g : Nat → Int} (hg : ∀ q, 1 ≤ g q) : ∀ (xs : List FT) (n : Int), n ≤ 1001 → n ≤ foldW g xs n
 | [], n, h => Int.le_refl _
 | x :: xs, n, h => by
   rw [foldW]
   have h1 := hg x.type.toNat
   have := foldW_ge hg xs (min (n + g x.type.toNat) 1001) (by omega)
   omega
theorem foldW_top {g : Nat → Int} (hg : ∀ q, 1 ≤ g q) : ∀ (xs : List FT) (n : Int), 1 ≤ n → n ≤ 1001 → (∃ x ∈ xs, g x.type.toNat = 1001) → foldW g xs n = 1001
 | [], n, _, h, hx => by obtain ⟨x, hx, _⟩ := hx; simp at hx
 | x :: xs, n, h1, h, hx => by
   rw [foldW]
   have hgx := hg x.type.toNat
   by_cases he : g x.type.toNat = 1001
   · have hm : min (n + g x.type.toNat) 1001 = 1001 := by omega
     rw [hm]
     have a := foldW_ge hg xs 1001 (by omega)
     have b := foldW_le (g := g) xs 1001 (by omega)
     omega
   · obtain ⟨y, hy, hy2⟩ := hx
     rcases List.mem_cons.1 hy with rfl | hy
     · exact absurd hy2 he
     · exact foldW_top hg xs _ (by omega) (by omega) ⟨y, hy, hy2⟩
theorem foldW_congr {g h : Nat → Int} : ∀ (xs : List FT) (n : Int), (∀ x ∈ xs, g x.type.toNat = h x.type.toNat) → foldW g xs n = foldW h xs n
 | [], n, _ => rfl
 | x :: xs, n, e => by
   rw [foldW, foldW, e x (by simp)]
   exact foldW_congr xs _ fun y hy => e y (by simp [hy])
theorem omg_range (ns : List NT) : ∀ (d p : Nat), 1 ≤ omg ns d p ∧ omg ns d p ≤ 1001
 | 0, p => ⟨by rw [omg]; decide, by rw [omg]; decide⟩
 | d + 1, p => by
   rw [omg]
   exact ⟨foldW_ge (fun q => (omg_range ns d q).1) _ _ (by decide), foldW_le _ _ (by decide)⟩
theorem omg_dec (ns : List NT) : ∀ (d p : Nat), omg ns (d + 1) p ≤ omg ns d p
 | 0, p => by rw [omg.eq_1]; exact (omg_range ns 1 p).2
 | d + 1, p => by
   rw [omg, omg]
   exact foldW_mono (omg_dec ns d) _ _ _ (Int.le_refl _)
theorem omg_anti (ns : List NT) (d p : Nat) : ∀ e, omg ns (d + e) p ≤ omg ns d p
 | 0 => Int.le_refl _
 | e + 1 => Int.le_trans (omg_dec ns (d + e) p) (omg_anti ns d p e)
theorem omg_one (ns : List NT) (p : Nat) : ∀ (b d : Nat), omg ns d p ≤ (b : Int) → ∃ D, ∀ e, omg ns (D + e) p = omg ns D p
 | 0, d, h => by have := (omg_range ns d p).1; omega
 | b + 1, d, h => by
   by_cases hs : ∀ e, omg ns (d + e) p = omg ns d p
   · exact ⟨d, hs⟩
   · obtain ⟨e, he⟩ := Classical.not_forall.1 hs
     have := omg_anti ns d p e
     exact omg_one ns p b (d + e) (by omega)
theorem omg_all (ns : List NT) : ∀ N : Nat, ∃ D, ∀ p, p < N → ∀ e, omg ns (D + e) p = omg ns D p
 | 0 => ⟨0, fun p h => by omega⟩
 | N + 1 => by
   obtain ⟨D1, h1⟩ := omg_all ns N
   obtain ⟨D2, h2⟩ := omg_one ns N 1001 0 (by rw [omg]; decide)
   refine ⟨max D1 D2, fun p hp e => ?_⟩
   by_cases hpN : p < N
   · have a := h1 p hpN (max D1 D2 - D1 + e)
     have b := h1 p hpN (max D1 D2 - D1)
     rw [show D1 + (max D1 D2 - D1 + e) = max D1 D2 + e by omega] at a
     rw [show D1 + (max D1 D2 - D1) = max D1 D2 by omega] at b
     rw [a, b]
   · obtain rfl : p = N := by omega
     have a := h2 (max D1 D2 - D2 + e)
     have b := h2 (max D1 D2 - D2)
     rw [show D2 + (max D1 D2 - D2 + e) = max D1 D2 + e by omega] at a
     rw [show D2 + (max D1 D2 - D2) = max D1 D2 by omega] at b
     rw [a, b]
structure IsG (ns : List NT) (G : Nat → Int) : Prop where
 range : ∀ p, 1 ≤ G p ∧ G p ≤ 1001
 fix : ∀ p, p < ns.length → G p = foldW G (fieldsAt ns p) 1
 top : ∀ S : Nat → Prop, (∀ q, S q → ∃ x ∈ fieldsAt ns q, S x.type.toNat) → ∀ q, S q → G q = 1001
theorem omg_top (ns : List NT) (S : Nat → Prop) (hS : ∀ q, S q → ∃ x ∈ fieldsAt ns q, S x.type.toNat) : ∀ (d q : Nat), S q → omg ns d q = 1001
 | 0, q, _ => by rw [omg]
 | d + 1, q, h => by
   rw [omg]
   obtain ⟨x, hx, hx2⟩ := hS q h
   exact foldW_top (fun q => (omg_range ns d q).1) _ _ (by decide) (by decide) ⟨x, hx, omg_top ns S hS d _ hx2⟩
theorem exG (ns : List NT) (hr : ∀ p, ∀ x ∈ fieldsAt ns p, x.type.toNat < ns.length) : ∃ G, IsG ns G := by
 obtain ⟨D, hD⟩ := omg_all ns ns.length
 refine ⟨omg ns D, fun p => omg_range ns D p, fun p hp => ?_, fun S hS q hq => omg_top ns S hS D q hq⟩
 have h := hD p hp 1
 rw [← h, omg]
def Edge (ns : List NT) (p q : Nat) : Prop := ∃ x ∈ fieldsAt ns p, x.type.toNat = q
inductive Way (ns : List NT) : Nat → Nat → Prop
 | one {p q : Nat} (h : Edge ns p q) : Way ns p q
 | step {p q r : Nat} (h : Edge ns p q) (w : Way ns q r) : Way ns p r
theorem Way.tail {ns : List NT} {p q r : Nat} (w : Way ns p q) (h : Edge ns q r) : Way ns p r := by
 induction w with
 | one h1 => exact .step h1 (.one h)
 | step h1 _ ih => exact .step h1 (ih h)
theorem IsG.cyc {ns : List NT} {G : Nat → Int} (h : IsG ns G) {p : Nat} (hp : Way ns p p) : G p = 1001 := by
 refine h.top (fun q => Way ns q p) (fun q hq => ?_) p hp
 cases hq with
 | one h1 =>
   obtain ⟨x, hx, he⟩ := h1
   exact ⟨x, hx, by rw [he]; exact hp⟩
 | step h1 w =>
   obtain ⟨x, hx, he⟩ := h1
   exact ⟨x, hx, by rw [he]; exact w⟩
structure Memo (ns : List NT) (G : Nat → Int) (kn : List Int) (p : Nat) : Prop where
 len : kn.length = ns.length
 ok : KnOk kn
 pos : ∀ (j : Nat) (v : Int), kn[j]? = some v → 0 < v → v = G j
 neg : ∀ (j : Nat) (v : Int), kn[j]? = some v → v < 0 → Way ns j p
structure Kept (ns : List NT) (G : Nat → Int) (kn kn' : List Int) : Prop where
 len : kn'.length = ns.length
 ok : KnOk kn'
 pos : ∀ (j : Nat) (v : Int), kn'[j]? = some v → 0 < v → v = G j
 neg : ∀ (j : Nat) (v : Int), kn'[j]? = some v → v < 0 → ∃ u, kn[j]? = some u ∧ u < 0
 cnt : kn'.count 0 ≤ kn.count 0
theorem weighK_spec {ns : List NT} {G : Nat → Int} (hG : IsG ns G) (f : Nat → List Int → Int × List Int) (p : Nat) (c : Nat)
  (hf : ∀ (q : Nat) (kn : List Int), q < ns.length → Memo ns G kn q → kn.count 0 < c → (f q kn).1 = G q ∧ Kept ns G kn (f q kn).2) :
  ∀ (xs : List FT) (n : Int) (kn0 kn : List Int), (∀ x ∈ xs, x.type.toNat < ns.length ∧ Edge ns p x.type.toNat) → Kept ns G kn0 kn → (∀ (j : Nat) (v : Int), kn0[j]? = some v → v < 0 → j = p ∨ Way ns j p) → kn0.count 0 < c →
   (weighK f xs n kn).1 = foldW G xs n ∧ Kept ns G kn0 (weighK f xs n kn).2
 | [], n, kn0, kn, _, hk, _, _ => ⟨rfl, hk⟩
 | x :: xs, n, kn0, kn, hx, hk, hn, hc => by
   rw [weighK, foldW]
   obtain ⟨hxl, hxe⟩ := hx x (by simp)
   have hm : Memo ns G kn x.type.toNat := ⟨hk.len, hk.ok, hk.pos, fun j v hj hv => by
    obtain ⟨u, hu, hu0⟩ := hk.neg j v hj hv
    rcases hn j u hu hu0 with rfl | w
    · exact .one hxe
    · exact w.tail hxe⟩
   obtain ⟨h1, h2⟩ := hf x.type.toNat kn hxl hm (by have := hk.cnt; omega)
   rw [h1]
   exact weighK_spec hG f p c hf xs _ kn0 _ (fun y hy => hx y (by simp [hy])) ⟨h2.len, h2.ok, h2.pos, fun j v hj hv => by
    obtain ⟨u, hu, hu0⟩ := h2.neg j v hj hv
    exact hk.neg j u hu hu0, by have := hk.cnt; have := h2.cnt; omega⟩ hn hc
theorem set_get {kn : List Int} {p j : Nat} {v w : Int} (h : (kn.set p w)[j]? = some v) : (j = p ∧ v = w) ∨ (j ≠ p ∧ kn[j]? = some v) := by
 rw [List.getElem?_set] at h
 split at h
 · rename_i hp
   split at h
   · exact .inl ⟨hp.symm, (Option.some.inj h).symm⟩
   · simp at h
 · rename_i hp
   exact .inr ⟨fun e => hp e.symm, h⟩
theorem weighM_spec {ns : List NT} {G : Nat → Int} (hG : IsG ns G) (hr : ∀ p, ∀ x ∈ fieldsAt ns p, x.type.toNat < ns.length) : ∀ (d p : Nat) (kn : List Int), p < ns.length → Memo ns G kn p → kn.count 0 < d → (weighM ns d p kn).1 = G p ∧ Kept ns G kn (weighM ns d p kn).2
 | 0, p, kn, _, _, h => by omega
 | d + 1, p, kn, hp, hm, hc => by
   obtain ⟨v, hv⟩ : ∃ v, kn[p]? = some v := ⟨kn[p]'(by rw [hm.len]; exact hp), List.getElem?_eq_getElem _⟩
   have hself : Kept ns G kn kn := ⟨hm.len, hm.ok, hm.pos, fun j u hj hu => ⟨u, hj, hu⟩, Nat.le_refl _⟩
   rw [weighM, knAt_of hv]
   split
   · rename_i h0
     exact ⟨(hG.cyc (hm.neg p v hv h0)).symm, hself⟩
   · split
     · rename_i h0 h1
       exact ⟨hm.pos p v hv h1, hself⟩
     · rename_i h0 h1
       obtain rfl : v = 0 := by omega
       have hct := count_set_lt (v := -1) hv (by decide)
       have hk1 : Kept ns G (kn.set p (-1)) (kn.set p (-1)) := ⟨by rw [List.length_set]; exact hm.len, hm.ok.set p (by decide), fun j u hj hu => by
        rcases set_get hj with ⟨_, rfl⟩ | ⟨_, h⟩
        · omega
        · exact hm.pos j u h hu, fun j u hj hu => ⟨u, hj, hu⟩, Nat.le_refl _⟩
       obtain ⟨h2, h3⟩ := weighK_spec hG (weighM ns d) p d (fun q kn hq hmq hcq => weighM_spec hG hr d q kn hq hmq hcq) (fieldsAt ns p) 1 (kn.set p (-1)) (kn.set p (-1)) (fun x hx => ⟨hr p x hx, x, hx, rfl⟩) hk1 (fun j u hj hu => by
        rcases set_get hj with ⟨e, _⟩ | ⟨_, h⟩
        · exact .inl e
        · exact .inr (hm.neg j u h hu)) (by omega)
       simp only []
       rw [h2, ← hG.fix p hp]
       have hGp := hG.range p
       have c2 := count_set_le (kn := (weighK (weighM ns d) (fieldsAt ns p) 1 (kn.set p (-1))).2) p (v := G p) (by omega)
       refine ⟨rfl, by rw [List.length_set]; exact h3.len, h3.ok.set p (by omega), fun j u hj hu => ?_, fun j u hj hu => ?_, by have := h3.cnt; omega⟩
       · rcases set_get hj with ⟨rfl, rfl⟩ | ⟨_, h⟩
         · rfl
         · exact h3.pos j u h hu
       · rcases set_get hj with ⟨_, rfl⟩ | ⟨hne, h⟩
         · omega
         · obtain ⟨w, hw, hw0⟩ := h3.neg j u h hu
           rcases set_get hw with ⟨e, _⟩ | ⟨_, h'⟩
           · exact absurd e hne
           · exact ⟨w, h', hw0⟩
theorem memo_none {ns : List NT} {G : Nat → Int} {kn : List Int} (h1 : kn.length = ns.length) (h2 : KnOk kn) (h3 : ∀ (j : Nat) (v : Int), kn[j]? = some v → 0 < v → v = G j) (h4 : ∀ (j : Nat) (v : Int), kn[j]? = some v → ¬ v < 0) (p : Nat) : Memo ns G kn p :=
 ⟨h1, h2, h3, fun j v hj hv => absurd hv (h4 j v hj)⟩

/-! Names by their last dot. -/
def sp1 : List UInt8 → List UInt8 × List (List UInt8)
 | [] => ([], [])
 | c :: cs => if c = 46 then ([], (sp1 cs).1 :: (sp1 cs).2) else (c :: (sp1 cs).1, (sp1 cs).2)
def okF (s : List UInt8) : Bool := simp1 (sp1 s).1 && (sp1 s).2.all simp1
theorem sp1_none : ∀ t : List UInt8, 46 ∉ t → sp1 t = (t, [])
 | [], _ => rfl
 | c :: cs, h => by
   have hc : c ≠ 46 := fun e => h (e ▸ List.mem_cons_self)
   rw [sp1, if_neg hc, sp1_none cs fun hm => h (List.mem_cons_of_mem _ hm)]
theorem sp1_dot {t : List UInt8} (ht : 46 ∉ t) : ∀ s : List UInt8, sp1 (s ++ 46 :: t) = ((sp1 s).1, (sp1 s).2 ++ [t])
 | [] => by
   have e : sp1 (46 :: t) = ([], (sp1 t).1 :: (sp1 t).2) := by rw [sp1.eq_2, if_pos rfl]
   rw [List.nil_append, e, sp1_none t ht]
   rfl
 | c :: cs => by
   rw [List.cons_append, sp1, sp1, sp1_dot ht cs]
   split
   · rfl
   · rfl
theorem okF_none {t : List UInt8} (h : 46 ∉ t) : okF t = simp1 t := by
 rw [okF, sp1_none t h]
 simp
theorem okF_dot {t : List UInt8} (ht : 46 ∉ t) (s : List UInt8) : okF (s ++ 46 :: t) = (okF s && simp1 t) := by
 rw [okF, sp1_dot ht, okF]
 simp [List.all_append, Bool.and_assoc]
theorem sp1_take : ∀ s : List UInt8, (sp1 s).1 = s.takeWhile (· != 46) ∧ (sp1 s).2 = match s.dropWhile (· != 46) with | [] => [] | _ :: r => (sp1 r).1 :: (sp1 r).2
 | [] => ⟨rfl, rfl⟩
 | c :: cs => by
   obtain ⟨h1, h2⟩ := sp1_take cs
   by_cases h : c = 46
   · subst h
     exact ⟨by simp [sp1], by simp [sp1]⟩
   · have hb : (c != 46) = true := by simp [h]
     rw [sp1, if_neg h, List.takeWhile_cons, List.dropWhile_cons, if_pos hb, if_pos hb]
     exact ⟨by rw [h1], h2⟩
theorem fullF_ok : ∀ (n : Nat) (s : List UInt8), s.length < n → fullF n s = okF s
 | 0, _, h => by omega
 | n + 1, s, h => by
   obtain ⟨h1, h2⟩ := sp1_take s
   rw [fullF, okF, h1, h2]
   congr 1
   have hd : (s.dropWhile (· != 46)).length ≤ s.length := (List.dropWhile_sublist _).length_le
   cases hr : s.dropWhile (· != 46) with
   | nil => rfl
   | cons x r =>
     rw [hr] at hd
     simp at hd
     simp only []
     rw [fullF_ok n r (by omega), List.all_cons]
     rfl
theorem fullM_ok (s : List UInt8) : fullM s = (decide (s.length ≤ 100) && okF s) := by rw [fullM, fullF_ok _ s (by omega)]
def dotA : Nat → Int → List UInt8 → Int
 | _, a, [] => a
 | i, a, c :: cs => dotA (i + 1) (if c = 46 then (i : Int) else a) cs
def dotI (s : List UInt8) : Int := dotA 0 (-1) s
theorem dotA_spec : ∀ (l : List UInt8) (i : Nat) (a : Int), (46 ∉ l ∧ dotA i a l = a) ∨ ∃ j : Nat, j < l.length ∧ l[j]? = some 46 ∧ 46 ∉ l.drop (j + 1) ∧ dotA i a l = ((i + j : Nat) : Int)
 | [], i, a => .inl ⟨by simp, rfl⟩
 | c :: cs, i, a => by
   rw [dotA]
   rcases dotA_spec cs (i + 1) (if c = 46 then (i : Int) else a) with ⟨h1, h2⟩ | ⟨j, h0, h1, h2, h3⟩
   · by_cases hc : c = 46
     · rw [if_pos hc] at h2 ⊢
       exact .inr ⟨0, by simp, by simp [hc], by simpa using h1, by rw [h2]; simp⟩
     · rw [if_neg hc] at h2 ⊢
       refine .inl ⟨?_, h2⟩
       intro hm
       rcases List.mem_cons.1 hm with e | hm
       · exact hc e.symm
       · exact h1 hm
   · exact .inr ⟨j + 1, by simp; omega, by simpa using h1, by simpa using h2, by rw [h3]; congr 1; omega⟩
theorem dotI_spec (l : List UInt8) : (46 ∉ l ∧ dotI l = -1) ∨ ∃ j : Nat, j < l.length ∧ dotI l = (j : Int) ∧ l = l.take j ++ 46 :: l.drop (j + 1) ∧ 46 ∉ l.drop (j + 1) := by
 rcases dotA_spec l 0 (-1) with h | ⟨j, h0, h1, h2, h3⟩
 · exact .inl h
 · refine .inr ⟨j, h0, by rw [dotI, h3]; simp, ?_, h2⟩
   obtain ⟨hlt, he⟩ := List.getElem?_eq_some_iff.1 h1
   conv => lhs; rw [← List.take_append_drop j l, List.drop_eq_getElem_cons hlt, he]
/-! Nodes that are met. -/
def metM (ns : List NT) (d p : Nat) : Int := if (walkM ns d p).1 = true then ((walkM ns d p).2 : Int) else -1
/-! Weights by rounds. -/
def wAt (l : List Int) (q : Nat) : Int := match l[q]? with | some n => n | none => 1
theorem wAt_of {l : List Int} {p : Nat} {v : Int} (h : l[p]? = some v) : wAt l p = v := by rw [wAt, h]
def wstep (ns : List NT) (l : List Int) : List Int := (List.range ns.length).map fun p => foldW (wAt l) (fieldsAt ns p) 1
def WOk (ns : List NT) (l : List Int) : Prop := l.length = ns.length ∧ (∀ x ∈ l, 1 ≤ x ∧ x ≤ 1001) ∧ ∀ p, p < ns.length → wAt l p ≤ foldW (wAt l) (fieldsAt ns p) 1
theorem wstep_at {ns : List NT} {l : List Int} {p : Nat} (h : p < ns.length) : (wstep ns l)[p]? = some (foldW (wAt l) (fieldsAt ns p) 1) := by
 unfold wstep
 rw [List.getElem?_map, List.getElem?_range h]
 rfl
theorem wAt_step {ns : List NT} {l : List Int} {p : Nat} (h : p < ns.length) : wAt (wstep ns l) p = foldW (wAt l) (fieldsAt ns p) 1 := wAt_of (wstep_at h)
theorem wAt_range {l : List Int} (h : ∀ x ∈ l, 1 ≤ x ∧ x ≤ 1001) (q : Nat) : 1 ≤ wAt l q ∧ wAt l q ≤ 1001 := by
 unfold wAt
 split
 · rename_i n hn
   exact h n (List.mem_of_getElem? hn)
 · exact ⟨by decide, by decide⟩
theorem wok_one (ns : List NT) : WOk ns (List.replicate ns.length 1) := by
 have hr : ∀ x ∈ List.replicate ns.length (1 : Int), 1 ≤ x ∧ x ≤ 1001 := fun x hx => by
  obtain rfl := (List.mem_replicate.1 hx).2
  exact ⟨by decide, by decide⟩
 refine ⟨by simp, hr, fun p hp => ?_⟩
 have : wAt (List.replicate ns.length 1) p = 1 := wAt_of (by rw [List.getElem?_replicate, if_pos hp])
 rw [this]
 exact foldW_ge (fun q => (wAt_range hr q).1) _ _ (by decide)
theorem wok_step {ns : List NT} {l : List Int} (h : WOk ns l) : WOk ns (wstep ns l) := by
 obtain ⟨h1, h2, h3⟩ := h
 have hr : ∀ x ∈ wstep ns l, 1 ≤ x ∧ x ≤ 1001 := fun x hx => by
  unfold wstep at hx
  obtain ⟨p, _, rfl⟩ := List.mem_map.1 hx
  exact ⟨foldW_ge (fun q => (wAt_range h2 q).1) _ _ (by decide), foldW_le _ _ (by decide)⟩
 refine ⟨by simp [wstep], hr, fun p hp => ?_⟩
 rw [wAt_step hp]
 refine foldW_mono (fun q => ?_) _ _ _ (Int.le_refl _)
 by_cases hq : q < ns.length
 · rw [wAt_step hq]
   exact h3 q hq
 · have e1 : wAt l q = 1 := by rw [wAt, List.getElem?_eq_none (by omega)]
   have e2 : wAt (wstep ns l) q = 1 := by rw [wAt, List.getElem?_eq_none (by simp [wstep]; omega)]
   omega
def wlack : List Int → Nat
 | [] => 0
 | x :: xs => (1001 - x).toNat + wlack xs
theorem wlack_le : ∀ (l l' : List Int), l.length = l'.length → (∀ p, wAt l p ≤ wAt l' p) → wlack l' ≤ wlack l
 | [], [], _, _ => Nat.le_refl _
 | x :: xs, y :: ys, hl, h => by
   have h0 := h 0
   have := wlack_le xs ys (by simpa using hl) fun p => h (p + 1)
   simp [wAt] at h0
   simp only [wlack]
   omega
theorem wlack_lt : ∀ (l l' : List Int), l.length = l'.length → (∀ p, wAt l p ≤ wAt l' p) → (∀ x ∈ l', x ≤ 1001) → l ≠ l' → wlack l' < wlack l
 | [], [], _, _, _, h => absurd rfl h
 | x :: xs, y :: ys, hl, h, hb, hne => by
   have h0 := h 0
   have hy := hb y (by simp)
   have hle := wlack_le xs ys (by simpa using hl) fun p => h (p + 1)
   simp [wAt] at h0
   simp only [wlack]
   by_cases hx : x = y
   · have := wlack_lt xs ys (by simpa using hl) (fun p => h (p + 1)) (fun z hz => hb z (by simp [hz])) fun e => hne (by rw [hx, e])
     omega
   · omega
theorem wstep_lack {ns : List NT} {l : List Int} (h : WOk ns l) (hne : wstep ns l ≠ l) : wlack (wstep ns l) < wlack l := by
 refine wlack_lt l _ (by simp [wstep, h.1]) (fun p => ?_) (fun x hx => ((wok_step h).2.1 x hx).2) fun e => hne e.symm
 by_cases hp : p < ns.length
 · rw [wAt_step hp]
   exact h.2.2 p hp
 · rw [wAt, List.getElem?_eq_none (by have := h.1; omega), wAt, List.getElem?_eq_none (by simp [wstep]; omega)]
   exact Int.le_refl _
theorem foldW_lt {g : Nat → Int} (hg : ∀ q, 1 ≤ g q) : ∀ (xs : List FT) (n : Int), 1 ≤ n → n ≤ 1001 → foldW g xs n < 1001 → ∀ x ∈ xs, g x.type.toNat < foldW g xs n
 | [], n, _, _, _, x, hx => by simp at hx
 | y :: ys, n, h1, h2, h, x, hx => by
   rw [foldW] at h ⊢
   have hgy := hg y.type.toNat
   rcases List.mem_cons.1 hx with rfl | hx
   · have := foldW_ge hg ys (min (n + g x.type.toNat) 1001) (by omega)
     omega
   · exact foldW_lt hg ys _ (by omega) (by omega) h x hx
theorem fix_le {ns : List NT} {G H : Nat → Int} (hG : ∀ p, 1 ≤ G p ∧ G p ≤ 1001) (hH : ∀ p, 1 ≤ H p ∧ H p ≤ 1001) (fG : ∀ p, p < ns.length → G p = foldW G (fieldsAt ns p) 1) (fH : ∀ p, p < ns.length → H p = foldW H (fieldsAt ns p) 1)
  (hr : ∀ p, ∀ x ∈ fieldsAt ns p, x.type.toNat < ns.length) : ∀ (m : Nat) (p : Nat), p < ns.length → G p < 1001 → G p ≤ (m : Int) → H p = G p
 | 0, p, _, _, h => by have := (hG p).1; omega
 | m + 1, p, hp, h1, h2 => by
   rw [fG p hp] at h1 h2 ⊢
   rw [fH p hp]
   refine foldW_congr _ _ fun x hx => ?_
   have := foldW_lt (fun q => (hG q).1) (fieldsAt ns p) 1 (by decide) (by decide) h1 x hx
   exact fix_le hG hH fG fH hr m _ (hr p x hx) (by omega) (by omega)
theorem fix_one {ns : List NT} {G H : Nat → Int} (hG : ∀ p, 1 ≤ G p ∧ G p ≤ 1001) (hH : ∀ p, 1 ≤ H p ∧ H p ≤ 1001) (fG : ∀ p, p < ns.length → G p = foldW G (fieldsAt ns p) 1) (fH : ∀ p, p < ns.length → H p = foldW H (fieldsAt ns p) 1)
  (hr : ∀ p, ∀ x ∈ fieldsAt ns p, x.type.toNat < ns.length) (p : Nat) (hp : p < ns.length) : H p = G p := by
 by_cases h1 : G p < 1001
 · exact fix_le hG hH fG fH hr 1001 p hp h1 (hG p).2
 · by_cases h2 : H p < 1001
   · exact (fix_le hH hG fH fG hr 1001 p hp h2 (hH p).2).symm
   · have := (hG p).2
     have := (hH p).2
     omega
theorem wok_G {ns : List NT} {G : Nat → Int} {l : List Int} (hG : IsG ns G) (hr : ∀ p, ∀ x ∈ fieldsAt ns p, x.type.toNat < ns.length) (h : WOk ns l) (he : wstep ns l = l) (p : Nat) (hp : p < ns.length) : l[p]? = some (G p) := by
 have hlt : p < l.length := by rw [h.1]; exact hp
 have e : l[p]? = some (wAt l p) := by
  rw [List.getElem?_eq_getElem hlt]
  congr 1
  exact (wAt_of (List.getElem?_eq_getElem hlt)).symm
 rw [e]
 congr 1
 exact fix_one hG.range (fun q => wAt_range h.2.1 q) hG.fix (fun q hq => by rw [← wAt_step hq, he]) hr p hp
theorem rightL_eq {ns : List NT} {G : Nat → Int} (hG : IsG ns G) (hr : ∀ p, ∀ x ∈ fieldsAt ns p, x.type.toNat < ns.length) : ∀ (r : List NT) (p : Nat) (kn : List Int), p + r.length = ns.length → kn.length = ns.length → KnOk kn → (∀ (j : Nat) (v : Int), kn[j]? = some v → 0 < v → v = G j) → (∀ (j : Nat) (v : Int), kn[j]? = some v → ¬ v < 0) →
  (rightL ns r p kn = true ↔ (∀ n ∈ r, nodeM ns n = true) ∧ ∀ i, p ≤ i → i < ns.length → G i ≤ 1000)
 | [], p, kn, hl, _, _, _, _ => by
   simp at hl
   simp only [rightL, true_iff]
   exact ⟨by simp, fun i h1 h2 => by omega⟩
 | n :: r, p, kn, hl, h1, h2, h3, h4 => by
   rw [rightL]
   simp only [Bool.and_eq_true, decide_eq_true_eq]
   simp at hl
   have hc := List.count_le_length (a := (0 : Int)) (l := kn)
   obtain ⟨e, hk⟩ := weighM_spec hG hr (ns.length + 1) p kn (by omega) (memo_none h1 h2 h3 h4 p) (by omega)
   rw [e, rightL_eq hG hr r (p + 1) _ (by omega) hk.len hk.ok hk.pos (fun j v hj hv => by
       obtain ⟨u, hu, hu0⟩ := hk.neg j v hj hv
       exact h4 j u hu hu0)]
   constructor
   · rintro ⟨a, b, c, d⟩
     refine ⟨fun m hm => ?_, fun i hi hi2 => ?_⟩
     · rcases List.mem_cons.1 hm with rfl | hm
       · exact a
       · exact c m hm
     · by_cases hip : i = p
       · rw [hip]; exact b
       · exact d i (by omega) hi2
   · rintro ⟨a, b⟩
     exact ⟨a n (by simp), b p (Nat.le_refl _) (by omega), fun m hm => a m (by simp [hm]), fun i hi hi2 => b i (by omega) hi2⟩
theorem rightM_eq {s : ST} {G : Nat → Int} (hG : IsG s.nodes G) (hr : ∀ p, ∀ x ∈ fieldsAt s.nodes p, x.type.toNat < s.nodes.length) :
  rightM s = true ↔ orderedM s = true ∧ (∀ n ∈ s.nodes, nodeM s.nodes n = true) ∧ (∀ i, i < s.nodes.length → G i ≤ 1000) ∧ (namesM s.nodes).Nodup := by
 have hz : ∀ (j : Nat) (v : Int), (List.replicate s.nodes.length (0 : Int))[j]? = some v → v = 0 := fun j v hj => (List.mem_replicate.1 (List.mem_of_getElem? hj)).2
 have h := rightL_eq hG hr s.nodes 0 (List.replicate s.nodes.length 0) (by simp) (by simp) (fun x hx => by obtain rfl := (List.mem_replicate.1 hx).2; decide) (fun j v hj hv => by have := hz j v hj; omega) (fun j v hj => by have := hz j v hj; omega)
 unfold rightM diffM
 simp only [Bool.and_eq_true, decide_eq_true_eq, h, List.all_eq_true]
 constructor
 · rintro ⟨a, ⟨b, c⟩, d, e⟩
   exact ⟨a, b, fun i hi => c i (Nat.zero_le _) hi, e⟩
 · rintro ⟨a, b, c, d⟩
   refine ⟨a, ⟨b, fun i _ hi => c i hi⟩, fun x hx => ?_, d⟩
   obtain ⟨n, hn, rfl⟩ := List.mem_map.1 hx
   obtain ⟨hn1, hn2⟩ := List.mem_filter.1 hn
   have := b n hn1
   unfold nodeM at this
   simp only [Bool.and_eq_true] at this
   have h2 := this.2.1
   rw [hn2] at h2
   simp only [Bool.not_true, Bool.false_or, Bool.and_eq_true] at h2
   exact h2.1

theorem rletter9_told (c : UInt8) : Told Tryz.prog 215 [.c (.v (.int .u8 (c.toNat : Int)))] (.c (.v (.bool (isLet c)))) := by
 obtain ⟨V, hV⟩ : ∃ V, V = isLet c := ⟨_, rfl⟩
 rw [← hV]
 obtain ⟨y, hy⟩ : ∃ y : Int, y = (c.toNat : Int) := ⟨_, rfl⟩
 rw [← hy]
 have hv : V = ((decide (y ≥ 97) && decide (y ≤ 122)) || ((decide (y ≥ 65) && decide (y ≤ 90)) || (y == 95))) := by
  have e : (y == 95) = decide (c.toNat = 95) := by
   rw [hy]
   by_cases h : c.toNat = 95
   · simp [h]
   · have : ¬ ((c.toNat : Int) = 95) := by omega
     simp [h, this]
  rw [hV, isLet, e, hy]
  congr 1
  · congr 1 <;> simp <;> omega
  · congr 1
    congr 1 <;> simp <;> omega
 clear hV hy
 replace hv := Lib.hid hv
 refine VC.toldP ent_215 Tryz.func215 rfl Tryz.ntmps215 fun hb => ?_
 clear hb
 (repeat (first | refine pass ?_ | refine VC.region (by rfl) (by rfl) ?_ | (refine AO.step fun K hK => ?_; simp only [List.append_assoc, go_sem, Int.reduceBEq, Int.reduceLE, Int.reduceLT, Int.reduceNeg, Nat.reduceAdd, Nat.reduceEqDiff, Nat.reduceLT, Nat.reduceLeDiff, Nat.reduceMul, Nat.reduceSub, reduceCtorEq, ↓reduceIte]; (first | refine gsel_skip ?_ | refine gsel_go ?_ | skip); (first | refine hK _ _ _ ?_ | refine ⟨by first | omega | exact ⟨_, rfl, rfl⟩ | exact fun _ => ⟨_, rfl, rfl⟩ | (intro h; simp only [List.append_assoc, h, true_and]; omega) | (clear hK; intro h; simp_all <;> omega), hK _ _ _ ?_⟩); clear hK K) | refine VC.draw mixP (by rfl) (by rfl) ?_ | refine ⟨okd_of (by kernel_rfl), ?_⟩ | refine BQ.other (by decide) ?_ | refine VC.seq ?_ | refine AO.nil ?_ | refine VC.block ?_))
 refine retX Tryz.results215 ?_
 have hv2 : V = ((decide (y ≥ 97) && decide (y ≤ 122)) || (decide (y ≥ 65) && decide (y ≤ 90)) || (y == 95)) := by rw [hv.out, Bool.or_assoc]
 rw [hv2]
 exact .c _
theorem rdigit9_told (c : UInt8) : Told Tryz.prog 216 [.c (.v (.int .u8 (c.toNat : Int)))] (.c (.v (.bool (isDig c)))) := by
 have e : isDig c = (decide ((c.toNat : Int) ≥ 48) && decide ((c.toNat : Int) ≤ 57)) := by
  unfold isDig
  congr 1 <;> simp <;> omega
 rw [e]
 refine VC.toldP ent_216 Tryz.func216 rfl Tryz.ntmps216 fun hb => ?_
 clear hb
 refine walkG ?_
 refine retX Tryz.results216 ?_
 exact .c _
theorem rsimple_told (s : List UInt8) (hs : s.length ≤ 1000000000) : Told Tryz.prog 188 [.c (.v (.string (str s)))] (.c (.v (.bool (simpleM s)))) := by
 obtain ⟨V, hV⟩ : ∃ V, V = simpleM s := ⟨_, rfl⟩
 rw [← hV]
 cases s with
 | nil =>
   obtain rfl : V = false := by rw [hV]; rfl
   refine VC.toldP ent_188 Tryz.func188 rfl Tryz.ntmps188 fun hb => ?_
   clear hb
   refine walkBF (@str_size) ?_
   refine retX Tryz.results188 ?_
   exact .c _
 | cons c cs =>
 obtain ⟨l, hll⟩ : ∃ l, l = c :: cs := ⟨_, rfl⟩
 have hpos : 0 < l.length := by rw [hll]; simp
 have e2 : ((l.length : Int) == 0) = false := beq_eq_false_iff_ne.2 (by omega)
 have hc0 : l[0]? = some c := by rw [hll]; rfl
 rw [← hll] at hV hs ⊢
 by_cases hl : l.length ≤ 100
 rotate_left
 · obtain rfl : V = false := by rw [hV, simpleM, decide_eq_false hl]; rfl
   have e1 : decide ((l.length : Int) > 100) = true := by simp; omega
   refine VC.toldP ent_188 Tryz.func188 rfl Tryz.ntmps188 fun hb => ?_
   clear hb
   refine walkBF (And.intro @str_size (And.intro e1 e2)) ?_
   refine retX Tryz.results188 ?_
   exact .c _
 have e1 : decide ((l.length : Int) > 100) = false := by simp; omega
 have hL := rletter9_told c
 have hv : V = (isLet c && l.all fun c => isLet c || isDig c) := by
  rw [hV, simpleM, decide_eq_true hl, Bool.true_and, hll]
  simp only [simp1, List.all_cons]
  cases isLet c <;> simp
 clear hV hll
 obtain ⟨bl, hbl⟩ : ∃ b, b = isLet c := ⟨_, rfl⟩
 rw [← hbl] at hL hv
 refine VC.toldP ent_188 Tryz.func188 rfl Tryz.ntmps188 fun hb => ?_
 clear hb
 refine walkGF (And.intro @str_size (And.intro e1 (And.intro e2 (And.intro @str_dl hc0)))) ?_
 refine walkC (hL) ?_
 refine walkG ?_
 refine VC.cond (by rfl) (by trivial) (fun hc => ?_) (fun hc => ?_)
 · obtain rfl : V = false := by
    rw [hv]
    have : bl = false := by simpa using hc
    rw [this]
    rfl
   refine walkG ?_
   refine retX Tryz.results188 ?_
   exact .c _
 have hbt : bl = true := by simpa using hc
 subst hbt
 rw [Bool.true_and] at hv
 refine walkGF (@str_size) ?_
 refine VC.loop (ι := {i : Nat // i ≤ l.length ∧ ∀ (j : Nat) (c : UInt8), j < i → l[j]? = some c → (isLet c || isDig c) = true})
  (fun q => [(0, .c (.v (.string (str l)))), (3, .c (.v (.int .i64 (q.1 : Int))))]) (fun _ => []) 800 (fun q => l.length - q.1) ⟨0, Nat.zero_le _, fun j c h => by omega⟩ ?_ ?_
 · exact weakZ
 rintro ⟨i, hi, ht⟩
 simp only []
 refine walkGF (@str_size) ?_
 refine VC.cond (by rfl) (by trivial) (fun hc => ?_) (fun hc => ?_)
 · have hlt : i < l.length := by simp at hc; omega
   obtain ⟨d, hx⟩ : ∃ d, l[i]? = some d := ⟨l[i], List.getElem?_eq_getElem hlt⟩
   have hw : IntKind.i64.wrap ((i : Int) + 1) = (i : Int) + 1 := wrap64_id (by omega) (by omega)
   have hL := rletter9_told d
   have hD := rdigit9_told d
   obtain ⟨b1, hb1⟩ : ∃ b, b = isLet d := ⟨_, rfl⟩
   obtain ⟨b2, hb2⟩ : ∃ b, b = isDig d := ⟨_, rfl⟩
   rw [← hb1] at hL
   rw [← hb2] at hD
   refine walkGF (And.intro @str_size (And.intro @str_dl hx)) ?_
   refine walkC (hL) ?_
   refine walkGF (And.intro @str_size (And.intro @str_dl hx)) ?_
   refine walkD (hD) ?_
   refine walkG ?_
   refine VC.cond (by rfl) (by trivial) (fun hc2 => ?_) (fun hc2 => ?_)
   · have hf : V = false := by
      rw [hv, List.all_eq_false]
      refine ⟨d, List.mem_of_getElem? hx, ?_⟩
      rw [← hb1, ← hb2]
      cases b1 <;> cases b2 <;> simp at hc2 ⊢
     subst hf
     refine walkG ?_
     refine retX Tryz.results188 ?_
     exact .c _
   · refine walkGF (hw) ?_
     refine .next ⟨i + 1, by omega, ?_⟩ ?_ (by simp only []; omega)
     · intro j e hj he
       by_cases hji : j < i
       · exact ht j e hji he
       · obtain rfl : j = i := by omega
         rw [hx] at he
         obtain rfl := Option.some.inj he
         rw [← hb1, ← hb2]
         cases b1 <;> cases b2 <;> simp at hc2 ⊢
     simp only [Weak, eq_self, used_is, sc_any, sc_c, sc_pp, sc_ref, sc_row, sc_agg, sc_fn, ScL, some_imp, List.forall_mem_map, go_sem, Int.reduceBEq, Int.reduceLE, Int.reduceLT, Int.reduceNeg, Nat.reduceAdd, Nat.reduceEqDiff, Nat.reduceLT, Nat.reduceLeDiff, Nat.reduceMul, Nat.reduceSub, reduceCtorEq, ↓reduceIte]
     try exact cI (by omega)
 · have hie : i = l.length := by simp at hc; omega
   have hf : V = true := by
    rw [hv, List.all_eq_true]
    intro e he
    obtain ⟨j, hj⟩ := List.getElem?_of_mem he
    exact ht j e (by have := (List.getElem?_eq_some_iff.1 hj).1; omega) hj
   subst hf
   refine walkG ?_
   refine retX Tryz.results188 ?_
   exact .c _
theorem rdot_told (s : List UInt8) (hs : s.length ≤ 1000000000) : Told Tryz.prog 149 [.c (.v (.string (str s)))] (.c (.v (.int .i64 (dotI s)))) := by
 obtain ⟨V, hV⟩ : ∃ V, V = dotI s := ⟨_, rfl⟩
 rw [← hV]
 unfold dotI at hV
 refine VC.toldP ent_149 Tryz.func149 rfl Tryz.ntmps149 fun hb => ?_
 clear hb
 refine walkG ?_
 refine VC.loop (ι := {x : Nat × Int // x.1 ≤ s.length ∧ dotA x.1 x.2 (s.drop x.1) = V})
  (fun q => [(0, .c (.v (.string (str s)))), (3, .c (.v (.int .i64 q.1.2))), (4, .c (.v (.int .i64 (q.1.1 : Int))))]) (fun _ => []) 800 (fun q => s.length - q.1.1) ⟨(0, -1), Nat.zero_le _, by simpa using hV.symm⟩ ?_ ?_
 · exact weakZ
 rintro ⟨⟨i, a⟩, hi, hv⟩
 simp only [] at hi hv ⊢
 refine walkGF (@str_size) ?_
 refine VC.cond (by rfl) (by trivial) (fun hc => ?_) (fun hc => ?_)
 · have hlt : i < s.length := by simp at hc; omega
   obtain ⟨d, hx⟩ : ∃ d, s[i]? = some d := ⟨s[i], List.getElem?_eq_getElem hlt⟩
   have hw : IntKind.i64.wrap ((i : Int) + 1) = (i : Int) + 1 := wrap64_id (by omega) (by omega)
   rw [(List.drop_eq_getElem_cons hlt).trans (by rw [(List.getElem?_eq_some_iff.1 hx).2] : _ = d :: s.drop (i + 1)), dotA] at hv
   refine walkGF (And.intro @str_size (And.intro @str_dl hx)) ?_
   refine VC.cond (by rfl) (by trivial) (fun hc2 => ?_) (fun hc2 => ?_)
   · have hd : d = 46 := by
      simp at hc2
      exact UInt8.toNat_inj.1 (by simp; omega)
     rw [if_pos hd] at hv
     refine walkGF (hw) ?_
     refine .next ⟨(i + 1, (i : Int)), by simp only []; omega, hv⟩ ?_ (by simp only []; omega)
     simp only [Weak, eq_self, used_is, sc_any, sc_c, sc_pp, sc_ref, sc_row, sc_agg, sc_fn, ScL, some_imp, List.forall_mem_map, go_sem, Int.reduceBEq, Int.reduceLE, Int.reduceLT, Int.reduceNeg, Nat.reduceAdd, Nat.reduceEqDiff, Nat.reduceLT, Nat.reduceLeDiff, Nat.reduceMul, Nat.reduceSub, reduceCtorEq, ↓reduceIte]
     try exact cI (by omega)
   · have hd : d ≠ 46 := by
      rintro rfl
      simp at hc2
     rw [if_neg hd] at hv
     refine walkGF (hw) ?_
     refine .next ⟨(i + 1, a), by simp only []; omega, hv⟩ ?_ (by simp only []; omega)
     simp only [Weak, eq_self, used_is, sc_any, sc_c, sc_pp, sc_ref, sc_row, sc_agg, sc_fn, ScL, some_imp, List.forall_mem_map, go_sem, Int.reduceBEq, Int.reduceLE, Int.reduceLT, Int.reduceNeg, Nat.reduceAdd, Nat.reduceEqDiff, Nat.reduceLT, Nat.reduceLeDiff, Nat.reduceMul, Nat.reduceSub, reduceCtorEq, ↓reduceIte]
     try exact cI (by omega)
 · have hie : i = s.length := by simp at hc; omega
   have hf : V = a := by rw [← hv, hie, List.drop_length, dotA]
   subst hf
   refine walkG ?_
   refine retX Tryz.results149 ?_
   exact .c _
theorem rfull_told (s : List UInt8) (hs : s.length ≤ 1000000000) : Told Tryz.prog 145 [.c (.v (.string (str s)))] (.c (.v (.bool (fullM s)))) := by
 obtain ⟨V, hV⟩ : ∃ V, V = fullM s := ⟨_, rfl⟩
 rw [← hV]
 rw [fullM_ok] at hV
 refine VC.toldP ent_145 Tryz.func145 rfl Tryz.ntmps145 fun hb => ?_
 clear hb
 refine walkGF (@str_size) ?_
 refine VC.cond (by rfl) (by trivial) (fun hc => ?_) (fun hc => ?_)
 · have hf : V = false := by
    have : ¬ (s.length ≤ 100) := by simp at hc; omega
    rw [hV]
    simp [this]
   subst hf
   refine walkG ?_
   refine retX Tryz.results145 ?_
   exact .c _
 have hl : s.length ≤ 100 := by simp at hc; omega
 have hv : okF s = V := by rw [hV]; simp [hl]
 clear hV hc
 refine walkG ?_
 refine VC.loop (ι := {l : List UInt8 // l.length ≤ 100 ∧ okF l = V}) (fun q => [(0, .c (.v (.string (str q.1))))]) (fun _ => []) 800 (fun q => q.1.length) ⟨s, hl, hv⟩ ?_ ?_
 · exact weakZ
 rintro ⟨l, hl, hv⟩
 simp only []
 have hD := rdot_told l (by omega)
 refine walkG ?_
 refine walkC (hD) ?_
 rcases dotI_spec l with ⟨h1, h2⟩ | ⟨j, hj, h2, h3, h4⟩
 · rw [okF_none h1] at hv
   have hS := rsimple_told l (by omega)
   have hsv : simpleM l = V := by rw [simpleM, ← hv]; simp [hl]
   rw [hsv] at hS
   rw [h2] at hD ⊢
   refine walkB ?_
   refine walkC (hS) ?_
   refine walkG ?_
   refine retX Tryz.results145 ?_
   exact .c _
 · rw [h2] at hD ⊢
   obtain ⟨t, htt⟩ : ∃ t, t = l.drop (j + 1) := ⟨_, rfl⟩
   have htl : t.length ≤ 100 := by rw [htt, List.length_drop]; omega
   have hS := rsimple_told t (by omega)
   have hsv : simpleM t = simp1 t := by rw [simpleM]; simp [htl]
   rw [hsv] at hS
   have hv2 : (okF (l.take j) && simp1 t) = V := by
    rw [← okF_dot (by rw [htt]; exact h4), htt, ← h3]
    exact hv
   obtain ⟨b, hbb⟩ : ∃ b, b = simp1 t := ⟨_, rfl⟩
   rw [← hbb] at hS hv2
   have hd : decide ((j : Int) ≥ 0) = true := by simp
   have hw : IntKind.i64.wrap ((j : Int) + 1) = (j : Int) + 1 := wrap64_id (by omega) (by omega)
   have ht : ((j : Int) + 1).toNat = j + 1 := by omega
   have hx1 : (str l).extract 0 j = str (l.take j) := by rw [str_extract, List.drop_zero]
   have hx2 : (str l).extract (j + 1) l.length = str t := by rw [str_extract, List.take_length, htt]
   refine walkBF (hd) ?_
   refine walkC (hD) ?_
   refine walkGF (And.intro hw (And.intro @str_size (And.intro ht hx2))) ?_
   refine walkC (hS) ?_
   refine walkG ?_
   refine VC.cond (by rfl) (by trivial) (fun hc => ?_) (fun hc => ?_)
   · have hf : V = false := by
      have : b = false := by simpa using hc
      rw [← hv2, this]
      simp
     subst hf
     refine walkG ?_
     refine retX Tryz.results145 ?_
     exact .c _
   · have hbt : b = true := by simpa using hc
     rw [hbt, Bool.and_true] at hv2
     refine walkG ?_
     refine walkC (hD) ?_
     refine walkGF (And.intro @str_size hx1) ?_
     refine .next ⟨l.take j, by rw [List.length_take]; omega, hv2⟩ ?_ (by simp only [List.length_take]; omega)
     exact weakZ
theorem rword_told (k : Nat) (hk : k ≤ 14) (w : List UInt8) (hw : kwords[k]? = some w) : Told Tryz.prog 95 [.c (.v (.int .i64 (k : Int)))] (.c (.v (.string (str w)))) := by
 rcases (by omega : k = 0 ∨ k = 1 ∨ k = 2 ∨ k = 3 ∨ k = 4 ∨ k = 5 ∨ k = 6 ∨ k = 7 ∨ k = 8 ∨ k = 9 ∨ k = 10 ∨ k = 11 ∨ k = 12 ∨ k = 13 ∨ k = 14) with rfl | rfl | rfl | rfl | rfl | rfl | rfl | rfl | rfl | rfl | rfl | rfl | rfl | rfl | rfl
 all_goals
  obtain rfl := Option.some.inj hw
  refine VC.toldP ent_95 Tryz.func95 rfl Tryz.ntmps95 fun hb => ?_
  clear hb
  refine walkB ?_
  refine retX Tryz.results95 ?_
  exact .c _
theorem rkind_told (s : List UInt8) : Told Tryz.prog 146 [.c (.v (.string (str s)))] (.c (.v (.int .i64 (kindM s : Int)))) := by
 obtain ⟨V, hV⟩ : ∃ V, V = kindM s := ⟨_, rfl⟩
 rw [← hV]
 refine VC.toldP ent_146 Tryz.func146 rfl Tryz.ntmps146 fun hb => ?_
 clear hb
 have hE : (⟨#[]⟩ : ByteArray).toList = [] := str_toList []
 have hkl : kwords.length = 15 := rfl
 refine walkG ?_
 refine VC.loop (ι := {i : Nat // 1 ≤ i ∧ i ≤ 15 ∧ ∀ (j : Nat) (w : List UInt8), j < i → kwords[j]? = some w → s ≠ [] → w ≠ s}) (fun q => [(0, .c (.v (.string (str s)))), (3, .c (.v (.int .i64 (q.1 : Int))))]) (fun _ => []) 800 (fun q => 15 - q.1)
  ⟨1, by omega, by omega, fun j w h hj hs => by
   obtain rfl : j = 0 := by omega
   obtain rfl := Option.some.inj hj
   exact fun e => hs e.symm⟩ ?_ ?_
 · exact weakZ
 rintro ⟨i, hi0, hi, ht⟩
 simp only []
 refine walkG ?_
 refine VC.cond (by rfl) (by trivial) (fun hc => ?_) (fun hc => ?_)
 · have hlt : i < 15 := by simp at hc; omega
   obtain ⟨w, hx⟩ : ∃ w, kwords[i]? = some w := ⟨kwords[i]'(by omega), List.getElem?_eq_getElem (by omega)⟩
   have hw : IntKind.i64.wrap ((i : Int) + 1) = (i : Int) + 1 := wrap64_id (by omega) (by omega)
   have hW := rword_told i (by omega) w hx
   refine walkGF (And.intro @str_toList hE) ?_
   refine walkD (hW) ?_
   refine walkGF (And.intro @str_toList hE) ?_
   refine VC.cond (by rfl) (by trivial) (fun hc2 => ?_) (fun hc2 => ?_)
   · have hh : s ≠ [] ∧ w = s := by simpa using hc2
     have hf : V = i := by
      rw [hV, kindM, if_neg hh.1]
      have : kwords.findIdx? (· == s) = some i := by
       rw [List.findIdx?_eq_some_iff_getElem]
       refine ⟨by omega, ?_, fun j hj => ?_⟩
       · have := (List.getElem?_eq_some_iff.1 hx).2
         simp [this, hh.2]
       · have := ht j _ hj (List.getElem?_eq_getElem (by omega)) hh.1
         simpa using this
      rw [this]
     subst hf
     refine walkG ?_
     refine retX Tryz.results146 ?_
     exact .c _
   · have hh : ¬ (s ≠ [] ∧ w = s) := by simpa using hc2
     refine walkGF (hw) ?_
     refine .next ⟨i + 1, by omega, by omega, ?_⟩ ?_ (by simp only []; omega)
     · intro j u hj hu hs
       by_cases hji : j < i
       · exact ht j u hji hu hs
       · obtain rfl : j = i := by omega
         rw [hx] at hu
         obtain rfl := Option.some.inj hu
         exact fun e => hh ⟨hs, e⟩
     refine weakX ?_
     exact cI (by omega)
 · have hie : i = 15 := by simp at hc; omega
   have hf : V = 0 := by
    rw [hV, kindM]
    split
    · rfl
    · rename_i hs
      have : kwords.findIdx? (· == s) = none := by
       rw [List.findIdx?_eq_none_iff]
       intro w hw
       obtain ⟨j, hj⟩ := List.getElem?_of_mem hw
       have := ht j w (by have := (List.getElem?_eq_some_iff.1 hj).1; omega) hj hs
       simpa using this
      rw [this]
   subst hf
   refine walkG ?_
   refine retX Tryz.results146 ?_
   exact .c _

theorem rsame_told : ∀ (m : Nat) (a b : JT), SizeOf.sizeOf a ≤ m → Told Tryz.prog 24 [a.av, b.av] (.c (.v (.bool (jeq a b)))) := by
 intro m
 induction m with
 | zero => intro a b ha; cases a; simp at ha
 | succ m ih =>
 intro a b ha
 cases a with
 | mk k n s ks xs =>
 cases b with
 | mk k' n' s' ks' xs' =>
 refine VC.told ent_24 Tryz.func24 rfl Tryz.ntmps24 (by simp) rfl rfl fun hb => ?_
 simp only [JT.av, cells_mk, List.map_cons, List.map_nil, abd_agg, abd_c, pbd_v, pbd_sl, List.mem_cons, List.not_mem_nil, or_false, forall_eq_or_imp, forall_eq, true_and, List.length_map] at hb ⊢
 have hx1 := hb.1.1.1
 have hk1 := hb.1.2.1
 clear hb
 refine walkGF (@str_toList) ?_
 refine VC.cond (by rfl) (by trivial) (fun hc => ?_) (fun hc => ?_)
 · have hne : jeq (.mk k n s ks xs) (.mk k' n' s' ks' xs') = false := by
    rw [jeq_false]
    intro e
    injection e with e1 e2 e3 e4 e5
    subst e1 e2 e3 e4 e5
    simp at hc
   refine walkG ?_
   refine ⟨.inr rfl, ?_⟩
   rw [Tryz.results24, hne]
   simp only [resOk, resV, go_sem, simprocAttr]
   exact .c _
 · simp only [Bool.or_eq_false_iff, bne_eq_false_iff_eq, Bool.not_eq_false', beq_iff_eq] at hc
   obtain ⟨⟨⟨⟨rfl, rfl⟩, rfl⟩, hkl⟩, hxl⟩ := hc
   have hkl : ks.length = ks'.length := by omega
   have hxl : xs.length = xs'.length := by omega
   refine walkG ?_
   refine VC.loop (ι := {i : Nat // i ≤ ks.length ∧ ks.take i = ks'.take i}) (fun i => [(2, .ref 0 1 0 0), (3, .ref 8 1 0 0), (5, .c (.v (.int .i64 i.1)))])
    (fun _ => [(0, ⟨false, 36, 5, [(JT.mk k n s ks xs).cells.map .c]⟩), (8, ⟨false, 36, 5, [(JT.mk k n s ks' xs').cells.map .c]⟩)]) 16 (fun i => ks.length - i.1) ⟨0, Nat.zero_le _, rfl⟩ ?_ ?_
   · simp only [cells_mk, Weak, eq_self, used_is, sc_any, sc_c, sc_pp, sc_ref, sc_row, sc_agg, sc_fn, ScL, some_imp, List.forall_mem_map, go_sem, Int.reduceBEq, Int.reduceLE, Int.reduceLT, Int.reduceNeg, Nat.reduceAdd, Nat.reduceEqDiff, Nat.reduceLT, Nat.reduceLeDiff, Nat.reduceMul, Nat.reduceSub, reduceCtorEq, ↓reduceIte]
     all_goals rfl
   rintro ⟨i, hi, ht⟩
   refine walkGF (@cells_mk) ?_
   refine VC.cond (by rfl) (by trivial) (fun hc => ?_) (fun hc => ?_)
   · simp only [decide_eq_true_eq] at hc
     obtain ⟨x, hx⟩ : ∃ x, ks[i]? = some x := ⟨ks[i], List.getElem?_eq_getElem (by omega)⟩
     obtain ⟨y, hy⟩ : ∃ y, ks'[i]? = some y := ⟨ks'[i], List.getElem?_eq_getElem (by omega)⟩
     have hw : IntKind.i64.wrap ((i : Int) + 1) = (i : Int) + 1 := wrap64_id (by omega) (by omega)
     have htn := taken_next hx hy ht
     (repeat (first | refine pass ?_ | refine VC.region (by rfl) (by rfl) ?_ | (refine AO.step fun K hK => ?_; simp only [cells_mk, List.getElem?_map, hx, hy, sPV, str_toList, go_sem, Int.reduceBEq, Int.reduceLE, Int.reduceLT, Int.reduceNeg, Nat.reduceAdd, Nat.reduceEqDiff, Nat.reduceLT, Nat.reduceLeDiff, Nat.reduceMul, Nat.reduceSub, reduceCtorEq, ↓reduceIte]; (first | refine gsel_skip ?_ | refine gsel_go ?_ | skip); (first | refine hK _ _ _ ?_ | refine ⟨by first | omega | exact ⟨_, rfl, rfl⟩ | exact fun _ => ⟨_, rfl, rfl⟩ | (intro h; simp only [cells_mk, List.getElem?_map, hx, hy, sPV, str_toList, h, true_and]; omega) | (clear hK; intro h; simp_all <;> omega), hK _ _ _ ?_⟩); clear hK K) | refine VC.draw mixP (by rfl) (by rfl) ?_ | refine ⟨okd_of (by kernel_rfl), ?_⟩ | refine BQ.other (by decide) ?_ | refine VC.seq ?_ | refine AO.nil ?_ | refine VC.block ?_))
     refine VC.cond (by rfl) (by trivial) (fun hc2 => ?_) (fun hc2 => ?_)
     · have hne : jeq (.mk k n s ks xs) (.mk k n s ks' xs') = false := by
        rw [jeq_false]
        intro e
        injection e with e1 e2 e3 e4 e5
        subst e4
        rw [hx] at hy
        obtain rfl := Option.some.inj hy
        simp at hc2
       refine walkG ?_
       refine ⟨.inr rfl, ?_⟩
       rw [Tryz.results24, hne]
       simp only [resOk, resV, go_sem, simprocAttr]
       exact .c _
     · have hxy : x = y := by simpa using hc2
       refine walkGF (hw) ?_
       refine .next ⟨i + 1, by omega, htn.2 hxy⟩ ?_ (by simp only []; omega)
       refine weakXF (@cells_mk) ?_
       exact cI (by omega)
   · simp only [decide_eq_false_iff_not] at hc
     obtain rfl : i = ks.length := by omega
     have hke : ks = ks' := by
      rw [List.take_length, hkl, List.take_length] at ht
      exact ht
     subst hke
     refine walkG ?_
     refine VC.loop (ι := {i : Nat // i ≤ xs.length ∧ xs.take i = xs'.take i}) (fun i => [(2, .ref 0 1 0 0), (3, .ref 8 1 0 0), (6, .c (.v (.int .i64 i.1)))])
      (fun _ => [(0, ⟨false, 36, 5, [(JT.mk k n s ks xs).cells.map .c]⟩), (8, ⟨false, 36, 5, [(JT.mk k n s ks xs').cells.map .c]⟩)]) 16 (fun i => xs.length - i.1) ⟨0, Nat.zero_le _, rfl⟩ ?_ ?_
     · simp only [cells_mk, Weak, eq_self, used_is, sc_any, sc_c, sc_pp, sc_ref, sc_row, sc_agg, sc_fn, ScL, some_imp, List.forall_mem_map, go_sem, Int.reduceBEq, Int.reduceLE, Int.reduceLT, Int.reduceNeg, Nat.reduceAdd, Nat.reduceEqDiff, Nat.reduceLT, Nat.reduceLeDiff, Nat.reduceMul, Nat.reduceSub, reduceCtorEq, ↓reduceIte]
       all_goals rfl
     rintro ⟨i, hi, ht⟩
     refine walkGF (@cells_mk) ?_
     refine VC.cond (by rfl) (by trivial) (fun hc => ?_) (fun hc => ?_)
     · simp only [decide_eq_true_eq] at hc
       obtain ⟨x, hx⟩ : ∃ x, xs[i]? = some x := ⟨xs[i], List.getElem?_eq_getElem (by omega)⟩
       obtain ⟨y, hy⟩ : ∃ y, xs'[i]? = some y := ⟨xs'[i], List.getElem?_eq_getElem (by omega)⟩
       have hw : IntKind.i64.wrap ((i : Int) + 1) = (i : Int) + 1 := wrap64_id (by omega) (by omega)
       have hcl := ih x y (by
        have h1 := List.sizeOf_lt_of_mem (List.mem_of_getElem? hx)
        simp at ha
        omega)
       (repeat (first | refine pass ?_ | refine VC.region (by rfl) (by rfl) ?_ | (refine AO.step fun K hK => ?_; simp only [cells_mk, List.getElem?_map, hx, hy, len_cells, take_cells, take_cellsC, go_sem, Int.reduceBEq, Int.reduceLE, Int.reduceLT, Int.reduceNeg, Nat.reduceAdd, Nat.reduceEqDiff, Nat.reduceLT, Nat.reduceLeDiff, Nat.reduceMul, Nat.reduceSub, reduceCtorEq, ↓reduceIte]; (first | refine gsel_skip ?_ | refine gsel_go ?_ | skip); (first | refine hK _ _ _ ?_ | refine ⟨by first | omega | exact ⟨_, rfl, rfl⟩ | exact fun _ => ⟨_, rfl, rfl⟩ | (intro h; simp only [cells_mk, List.getElem?_map, hx, hy, len_cells, take_cells, take_cellsC, h, true_and]; omega) | (clear hK; intro h; simp_all <;> omega), hK _ _ _ ?_⟩); clear hK K) | refine VC.draw mixP (by rfl) (by rfl) ?_ | refine ⟨okd_of (by kernel_rfl), ?_⟩ | refine BQ.other (by decide) ?_ | refine VC.seq ?_ | refine AO.nil ?_ | refine VC.block ?_))
       (refine AO.step fun K hK => ?_; simp only [go_sem, Int.reduceBEq, Int.reduceLE, Int.reduceLT, Int.reduceNeg, Nat.reduceAdd, Nat.reduceEqDiff, Nat.reduceLT, Nat.reduceLeDiff, Nat.reduceMul, Nat.reduceSub, reduceCtorEq, ↓reduceIte, pureL_c]; (first | refine gsel_go ?_ | skip))
       refine .inl ⟨_, hcl, hK _ _ _ ?_⟩
       clear hK K
       refine walkG ?_
       refine VC.cond (by rfl) (by trivial) (fun hc2 => ?_) (fun hc2 => ?_)
       · have hne : jeq (.mk k n s ks xs) (.mk k n s ks xs') = false := by
          rw [jeq_false]
          intro e
          injection e with e1 e2 e3 e4 e5
          subst e5
          rw [hx] at hy
          obtain rfl := Option.some.inj hy
          rw [jeq_self] at hc2
          simp at hc2
         refine walkG ?_
         refine ⟨.inr rfl, ?_⟩
         rw [Tryz.results24, hne]
         simp only [resOk, resV, go_sem, simprocAttr]
         exact .c _
       · have hxy : x = y := by
          rw [← jeq_iff]
          simpa using hc2
         refine walkGF (hw) ?_
         refine .next ⟨i + 1, by omega, ?_⟩ ?_ (by simp only []; omega)
         · rw [List.take_add_one, List.take_add_one, hx, hy, ht, hxy]
         refine weakXF (@cells_mk) ?_
         exact cI (by omega)
     · simp only [decide_eq_false_iff_not] at hc
       obtain rfl : i = xs.length := by omega
       have heq : xs = xs' := by
        rw [List.take_length, hxl, List.take_length] at ht
        exact ht
       subst heq
       refine walkG ?_
       refine ⟨.inr rfl, ?_⟩
       rw [Tryz.results24, jeq_self]
       simp only [resOk, resV, go_sem, simprocAttr]
       exact .c _

theorem take_nexty {α : Type} {ks ls : List α} {i : Nat} {x y : α} (hx : ks[i]? = some x) (hy : ls[i]? = some y) (h : ks.take i = ls.take i) (e : x = y) : ks.take (i + 1) = ls.take (i + 1) := by
 rw [List.take_add_one, List.take_add_one, hx, hy, h, e]
theorem ne_at {α : Type} {ks ls : List α} {i : Nat} {x y : α} (hx : ks[i]? = some x) (hy : ls[i]? = some y) (h : x ≠ y) : ks ≠ ls := by
 rintro rfl
 rw [hx] at hy
 exact h (Option.some.inj hy)
theorem take_end {α : Type} {ks ls : List α} {i : Nat} (h : ks.take i = ls.take i) (h1 : i = ks.length) (h2 : ks.length = ls.length) : ks = ls := by
 rw [h1, List.take_length, h2, List.take_length] at h
 exact h
theorem rtexts_told (ks ls : List (List UInt8)) : Told Tryz.prog 50 [.c (.sl 1 (ks.map sPV)), .c (.sl 1 (ls.map sPV))] (.c (.v (.bool (ks == ls)))) := by
 obtain ⟨V, hV⟩ : ∃ V, V = (ks == ls) := ⟨_, rfl⟩
 rw [← hV]
 refine VC.toldP ent_50 Tryz.func50 rfl Tryz.ntmps50 fun hb => ?_
 simp only [abd_c, pbd_sl, List.mem_cons, List.not_mem_nil, or_false, forall_eq_or_imp, forall_eq, true_and, List.length_map] at hb
 have hkb := hb.1.1
 clear hb
 refine walkG ?_
 refine VC.cond (by rfl) (by trivial) (fun hc => ?_) (fun hc => ?_)
 · have hf : V = false := by
    rw [hV, beq_eq_false_iff_ne]
    rintro rfl
    simp at hc
   subst hf
   refine walkG ?_
   refine retX Tryz.results50 ?_
   exact .c _
 have hll : ks.length = ls.length := by simp at hc; omega
 refine walkG ?_
 refine VC.loop (ι := {i : Nat // i ≤ ks.length ∧ ks.take i = ls.take i}) (fun q => [(0, .c (.sl 1 (ks.map sPV))), (1, .c (.sl 1 (ls.map sPV))), (5, .c (.v (.int .i64 (q.1 : Int))))]) (fun _ => []) 800 (fun q => ks.length - q.1) ⟨0, Nat.zero_le _, rfl⟩ ?_ ?_
 · exact weakZ
 rintro ⟨i, hi, ht⟩
 simp only []
 refine walkG ?_
 refine VC.cond (by rfl) (by trivial) (fun hc2 => ?_) (fun hc2 => ?_)
 · have hlt : i < ks.length := by simp at hc2; omega
   obtain ⟨x, hx⟩ : ∃ x, ks[i]? = some x := ⟨ks[i], List.getElem?_eq_getElem hlt⟩
   obtain ⟨y, hy⟩ : ∃ y, ls[i]? = some y := ⟨ls[i]'(by omega), List.getElem?_eq_getElem (by omega)⟩
   have hw : IntKind.i64.wrap ((i : Int) + 1) = (i : Int) + 1 := wrap64_id (by omega) (by omega)
   have hxp : (ks.map sPV)[i]? = some (sPV x) := by rw [List.getElem?_map, hx]; rfl
   have hyp : (ls.map sPV)[i]? = some (sPV y) := by rw [List.getElem?_map, hy]; rfl
   refine walkGF (And.intro hxp (And.intro hyp (And.intro @sPV_eq @str_toList))) ?_
   refine VC.cond (by rfl) (by trivial) (fun hc3 => ?_) (fun hc3 => ?_)
   · have hf : V = false := by
      rw [hV, beq_eq_false_iff_ne]
      exact ne_at hx hy (by simpa using hc3)
     subst hf
     refine walkG ?_
     refine retX Tryz.results50 ?_
     exact .c _
   · have hxy : x = y := by simpa using hc3
     refine walkGF (hw) ?_
     refine .next ⟨i + 1, by omega, take_nexty hx hy ht hxy⟩ ?_ (by simp only []; omega)
     simp only [Weak, eq_self, used_is, sc_any, sc_c, sc_pp, sc_ref, sc_row, sc_agg, sc_fn, ScL, some_imp, List.forall_mem_map, go_sem, Int.reduceBEq, Int.reduceLE, Int.reduceLT, Int.reduceNeg, Nat.reduceAdd, Nat.reduceEqDiff, Nat.reduceLT, Nat.reduceLeDiff, Nat.reduceMul, Nat.reduceSub, reduceCtorEq, ↓reduceIte]
     try exact cI (by omega)
 · have hie : i = ks.length := by simp at hc2; omega
   have hf : V = true := by
    rw [hV, beq_iff_eq]
    exact take_end ht hie hll
   subst hf
   refine walkG ?_
   refine retX Tryz.results50 ?_
   exact .c _
theorem rsimples_told (l : List (List UInt8)) (hl : l.length ≤ 1000000000) (hs : ∀ x ∈ l, x.length ≤ 1000000000) : Told Tryz.prog 147 [.c (.sl 1 (l.map sPV))] (.c (.v (.bool (allM simpleM l)))) := by
 obtain ⟨V, hV⟩ : ∃ V, V = allM simpleM l := ⟨_, rfl⟩
 rw [← hV]
 unfold allM at hV
 refine VC.toldP ent_147 Tryz.func147 rfl Tryz.ntmps147 fun hb => ?_
 clear hb
 refine walkG ?_
 refine VC.loop (ι := {i : Nat // i ≤ l.length ∧ ∀ (j : Nat) (x : List UInt8), j < i → l[j]? = some x → simpleM x = true}) (fun q => [(0, .c (.sl 1 (l.map sPV))), (3, .c (.v (.int .i64 (q.1 : Int))))]) (fun _ => []) 800 (fun q => l.length - q.1) ⟨0, Nat.zero_le _, fun j x h => by omega⟩ ?_ ?_
 · exact weakZ
 rintro ⟨i, hi, ht⟩
 simp only []
 refine walkG ?_
 refine VC.cond (by rfl) (by trivial) (fun hc => ?_) (fun hc => ?_)
 · have hlt : i < l.length := by simp at hc; omega
   obtain ⟨x, hx⟩ : ∃ x, l[i]? = some x := ⟨l[i], List.getElem?_eq_getElem hlt⟩
   have hw : IntKind.i64.wrap ((i : Int) + 1) = (i : Int) + 1 := wrap64_id (by omega) (by omega)
   have hxp : (l.map sPV)[i]? = some (sPV x) := by rw [List.getElem?_map, hx]; rfl
   have hS := rsimple_told x (hs x (List.mem_of_getElem? hx))
   refine walkGF (And.intro hxp @sPV_eq) ?_
   refine walkC (hS) ?_
   refine walkG ?_
   refine VC.cond (by rfl) (by trivial) (fun hc2 => ?_) (fun hc2 => ?_)
   · have hf : V = false := by
      have : l.all simpleM = false := by
       rw [List.all_eq_false]
       exact ⟨x, List.mem_of_getElem? hx, by simpa using hc2⟩
      rw [hV, this]
      simp
     subst hf
     refine walkG ?_
     refine retX Tryz.results147 ?_
     exact .c _
   · have hsx : simpleM x = true := by simpa using hc2
     refine walkGF (hw) ?_
     refine .next ⟨i + 1, by omega, ?_⟩ ?_ (by simp only []; omega)
     · intro j y hj hy
       by_cases hji : j < i
       · exact ht j y hji hy
       · obtain rfl : j = i := by omega
         rw [hx] at hy
         obtain rfl := Option.some.inj hy
         exact hsx
     simp only [Weak, eq_self, used_is, sc_any, sc_c, sc_pp, sc_ref, sc_row, sc_agg, sc_fn, ScL, some_imp, List.forall_mem_map, go_sem, Int.reduceBEq, Int.reduceLE, Int.reduceLT, Int.reduceNeg, Nat.reduceAdd, Nat.reduceEqDiff, Nat.reduceLT, Nat.reduceLeDiff, Nat.reduceMul, Nat.reduceSub, reduceCtorEq, ↓reduceIte]
     try exact cI (by omega)
 · have hie : i = l.length := by simp at hc; omega
   have hf : V = decide ((l.length : Int) ≤ 40) := by
    have : l.all simpleM = true := by
     rw [List.all_eq_true]
     intro y hy
     obtain ⟨j, hj⟩ := List.getElem?_of_mem hy
     exact ht j y (by have := (List.getElem?_eq_some_iff.1 hj).1; omega) hj
    rw [hV, this, Bool.and_true]
    exact decide_eq_decide.2 (by omega)
   rw [hf]
   refine walkG ?_
   refine retX Tryz.results147 ?_
   exact .c _
theorem nodup_take {l : List (List UInt8)} {i : Nat} {x : List UInt8} (hx : l[i]? = some x) (h : (l.take i).Nodup) (hn : ∀ (k : Nat) (y : List UInt8), k < i → l[k]? = some y → y ≠ x) : (l.take (i + 1)).Nodup := by
 rw [List.take_add_one, hx]
 simp only [Option.toList_some]
 rw [List.nodup_append]
 refine ⟨h, by simp, fun a ha b hb => ?_⟩
 obtain rfl := List.mem_singleton.1 hb
 obtain ⟨k, hk⟩ := List.getElem?_of_mem ha
 rw [List.getElem?_take] at hk
 split at hk
 · rename_i hki
   exact hn k a hki hk
 · simp at hk
theorem nodup_ne {l : List (List UInt8)} (h : l.Nodup) {i k : Nat} {x y : List UInt8} (hx : l[i]? = some x) (hy : l[k]? = some y) (hk : k < i) : y ≠ x := by
 obtain ⟨h1, rfl⟩ := List.getElem?_eq_some_iff.1 hx
 obtain ⟨h2, rfl⟩ := List.getElem?_eq_some_iff.1 hy
 intro e
 exact List.pairwise_iff_getElem.1 h k i h2 h1 hk e
theorem ronce_told (l : List (List UInt8)) (hl : l.length ≤ 1000000000) : Told Tryz.prog 92 [.c (.sl 1 (l.map sPV))] (.c (.v (.bool (decide l.Nodup)))) := by
 obtain ⟨V, hV⟩ : ∃ V, V = decide l.Nodup := ⟨_, rfl⟩
 rw [← hV]
 refine VC.toldP ent_92 Tryz.func92 rfl Tryz.ntmps92 fun hb => ?_
 clear hb
 refine walkG ?_
 refine VC.loop (ι := {i : Nat // i ≤ l.length ∧ (l.take i).Nodup}) (fun q => [(0, .c (.sl 1 (l.map sPV))), (3, .c (.v (.int .i64 (q.1 : Int))))]) (fun _ => []) 800 (fun q => l.length - q.1) ⟨0, Nat.zero_le _, by simp⟩ ?_ ?_
 · exact weakZ
 rintro ⟨i, hi, ht⟩
 simp only []
 refine walkG ?_
 refine VC.cond (by rfl) (by trivial) (fun hc => ?_) (fun hc => ?_)
 · have hlt : i < l.length := by simp at hc; omega
   obtain ⟨x, hx⟩ : ∃ x, l[i]? = some x := ⟨l[i], List.getElem?_eq_getElem hlt⟩
   have hw : IntKind.i64.wrap ((i : Int) + 1) = (i : Int) + 1 := wrap64_id (by omega) (by omega)
   have hxp : (l.map sPV)[i]? = some (sPV x) := by rw [List.getElem?_map, hx]; rfl
   refine walkG ?_
   refine VC.loop (ι := {k : Nat // k ≤ i ∧ ∀ (j : Nat) (y : List UInt8), j < k → l[j]? = some y → y ≠ x}) (fun q => [(0, .c (.sl 1 (l.map sPV))), (3, .c (.v (.int .i64 (i : Int)))), (4, .c (.v (.int .i64 (q.1 : Int))))]) (fun _ => []) 800 (fun q => i - q.1) ⟨0, Nat.zero_le _, fun j y h => by omega⟩ ?_ ?_
   · exact weakZ
   rintro ⟨k, hk, hn⟩
   simp only []
   refine walkG ?_
   refine VC.cond (by rfl) (by trivial) (fun hc2 => ?_) (fun hc2 => ?_)
   · have hki : k < i := by simp at hc2; omega
     obtain ⟨y, hy⟩ : ∃ y, l[k]? = some y := ⟨l[k]'(by omega), List.getElem?_eq_getElem (by omega)⟩
     have hwk : IntKind.i64.wrap ((k : Int) + 1) = (k : Int) + 1 := wrap64_id (by omega) (by omega)
     have hyp : (l.map sPV)[k]? = some (sPV y) := by rw [List.getElem?_map, hy]; rfl
     refine walkGF (And.intro hxp (And.intro hyp (And.intro @sPV_eq @str_toList))) ?_
     refine VC.cond (by rfl) (by trivial) (fun hc3 => ?_) (fun hc3 => ?_)
     · have hf : V = false := by
        rw [hV, decide_eq_false_iff_not]
        intro hd
        exact nodup_ne hd hx hy hki (by simpa using hc3)
       subst hf
       refine walkG ?_
       refine retX Tryz.results92 ?_
       exact .c _
     · have hyx : y ≠ x := by simpa using hc3
       refine walkGF (hwk) ?_
       refine .next ⟨k + 1, by omega, ?_⟩ ?_ (by simp only []; omega)
       · intro j z hj hz
         by_cases hji : j < k
         · exact hn j z hji hz
         · obtain rfl : j = k := by omega
           rw [hy] at hz
           obtain rfl := Option.some.inj hz
           exact hyx
       simp only [Weak, eq_self, used_is, sc_any, sc_c, sc_pp, sc_ref, sc_row, sc_agg, sc_fn, ScL, some_imp, List.forall_mem_map, go_sem, Int.reduceBEq, Int.reduceLE, Int.reduceLT, Int.reduceNeg, Nat.reduceAdd, Nat.reduceEqDiff, Nat.reduceLT, Nat.reduceLeDiff, Nat.reduceMul, Nat.reduceSub, reduceCtorEq, ↓reduceIte]
       try exact cI (by omega)
   · have hke : k = i := by simp at hc2; omega
     subst hke
     refine walkGF (hw) ?_
     refine .next ⟨k + 1, by omega, nodup_take hx ht hn⟩ ?_ (by simp only []; omega)
     simp only [Weak, eq_self, used_is, sc_any, sc_c, sc_pp, sc_ref, sc_row, sc_agg, sc_fn, ScL, some_imp, List.forall_mem_map, go_sem, Int.reduceBEq, Int.reduceLE, Int.reduceLT, Int.reduceNeg, Nat.reduceAdd, Nat.reduceEqDiff, Nat.reduceLT, Nat.reduceLeDiff, Nat.reduceMul, Nat.reduceSub, reduceCtorEq, ↓reduceIte]
     try exact cI (by omega)
 · have hie : i = l.length := by simp at hc; omega
   have hf : V = true := by
    rw [hV, decide_eq_true_eq]
    rw [hie, List.take_length] at ht
    exact ht
   subst hf
   refine walkG ?_
   refine retX Tryz.results92 ?_
   exact .c _
end
end Go.Proofs.YtepneflbhpidbaaGreatDoor
