/- The document's Quote, as a contract over plain values. -/
import Derived.Test.YticfioblapjkmaaGreatNu
import Derived.Test.YticfioblapjkmaaGreatQ0
import Derived.Test.YticfioblapjkmaaGreatAt
namespace Go.Proofs.YticfioblapjkmaaGreat
open Go.RowKit
set_option linter.unusedVariables false
set_option linter.unusedSimpArgs false
attribute [local go_sem] opx opE ev okx gcond bnd okO AV.get AV.okb cAV upd_at putd_some putd_none wrs_nil wrs_cons look_nil look_cons st argT_at bpick_and bpick_or bpick_true bpick_false binV binI binS binVOk binOk isShift binSOk unV unVOk loadV loadP cellsA zeroA Blkd.len setE grown moreA moreR moreOk eqRes pv fillA fillE putSeg AV.cellish AV.pureL AV.pureB lentL_is ex_some AV.ren AV.renL renL_c Blkd.ren rho wrM renN lentOk rhoE keepM endOk tyA_2 tyA_3 tyA_4 tyA_5 tyA_6 tyA_7 tyA_8 tyA_9 tyA_10 tyA_11 tyA_12 tyA_13 tyA_14 tyA_15 tyA_16 tyA_17 tyA_18 tyA_19 tyA_21 tyA_22 tyA_23 tyA_24 tyA_25 tyA_28 tyA_29 tyA_38 tyA_39 tyA_40 tyA_41 tyA_42 tyA_43 tyA_49 tyA_50 tyA_51 tyA_52 tyA_53 tyA_57 tyA_62 tyA_76 tyA_87 tyA_88 tyA_89 tyA_100 tyA_101 tyA_102 tyA_106 tyA_119 tyA_128 tyA_130 tyA_132 tyA_137 tyA_141 tyA_146 tyA_149 tyA_150 tyA_151 tyA_152 tyA_153 tyA_154 tyA_155 tyA_157 tyA_158 Option.map_some Option.map_none Option.getD_some Option.getD_none Option.bind_some Option.bind_none List.getElem?_cons_zero List.getElem?_cons_succ List.getElem?_nil List.getElem?_toArray List.length_cons List.length_nil List.length_map List.forall_mem_map List.map_cons List.map_nil List.drop_zero List.drop_succ_cons List.drop_nil List.take_zero List.take_succ_cons List.take_nil List.mem_cons List.not_mem_nil or_false forall_eq_or_imp forall_eq List.set_cons_zero List.set_cons_succ List.cons_append List.nil_append List.append_nil List.foldl_cons List.foldl_nil List.replicate_succ List.replicate_zero List.all_cons List.all_nil if_true if_false Bool.false_eq_true ne_eq not_false_eq_true not_true_eq_false true_and and_true and_self true_implies imp_self implies_true forall_const beq_self_eq_true Bool.and_true Bool.true_and Bool.and_false Bool.false_and Bool.or_true Bool.true_or Bool.or_false Bool.false_or Bool.not_true Bool.not_false Bool.not_eq_eq_eq_not intKindOf Value.oneCell' Int.toNat_natCast beq_true beq_false Bool.not_eq_true false_implies false_or true_or or_true Nat.zero_add Nat.add_zero decide_true decide_false Int.cast_ofNat_Int Int.toNat_zero Int.toNat_one eq_self

set_option maxRecDepth 100000 in
set_option maxHeartbeats 1600000 in
theorem rquote_told (s : List UInt8) (hs : s.length ≤ 1000000000) : Told Tryz.prog 29 [.c (.v (.string (str s)))] (.c (.v (.string (str (mQuote s))))) := by
  refine VC.told ent_29 Tryz.func29 rfl Tryz.ntmps29 (by simp) (by first | rfl | simp [AV.pureB, AV.pureL, pureL_c, pures]) (by first | rfl | simp [AV.pureB, AV.pureL, pureL_c, pures]) fun hb => ?_
  clear hb
  refine walkG ?_
  refine VC.loop (ι := {q : Nat × List UInt8 // q.1 ≤ s.length ∧ q.2 = 34 :: (s.take q.1).flatMap qByte ∧ q.2.length ≤ 1 + 6 * q.1})
    (fun q => [(0, .c (.v (.string (str s)))), (3, .c (.v (.string ⟨#[48, 49, 50, 51, 52, 53, 54, 55, 56, 57, 97, 98, 99, 100, 101, 102]⟩))), (4, .row 16 q.1.2.length), (5, .c (.v (.int .i64 (q.1.1 : Int))))])
    (fun q => [(16, ⟨true, 5, 1, bA q.1.2⟩)]) 64 (fun q => s.length - q.1.1) ⟨(0, [34]), Nat.zero_le _, by simp, by simp⟩ ?_ ?_
  · simp only [bA_len, bA_sc, Weak, eq_self, used_is, sc_any, sc_c, sc_pp, sc_ref, sc_row, sc_agg, sc_fn, ScL, some_imp, List.forall_mem_map, go_sem, Int.reduceBEq, Int.reduceLE, Int.reduceLT, Int.reduceNeg, Nat.reduceAdd, Nat.reduceEqDiff, Nat.reduceLT, Nat.reduceLeDiff, Nat.reduceMul, Nat.reduceSub, reduceCtorEq, ↓reduceIte]
    simp [bA]
  rintro ⟨⟨i, c⟩, hi, hcc, hcl⟩
  simp only [] at hi hcc hcl ⊢
  refine walkGF (And.intro @bA_len @str_size) ?_
  refine VC.cond (by rfl) (by trivial) (fun hc => ?_) (fun hc => ?_)
  · have hlt : i < s.length := by simp at hc; omega
    obtain ⟨x, hx⟩ : ∃ x, s[i]? = some x := ⟨s[i], List.getElem?_eq_getElem hlt⟩
    obtain ⟨y, hy⟩ : ∃ y, y = x.toNat := ⟨_, rfl⟩
    have hxy : x = y.toUInt8 := by rw [hy]; simp
    have hy256 : y < 256 := by rw [hy]; exact x.toNat_lt
    have hw : IntKind.i64.wrap ((i : Int) + 1) = (i : Int) + 1 := wrap64_id (by omega) (by omega)
    have hn : ∀ p, qByte x = p → (c ++ p) = 34 :: (s.take (i + 1)).flatMap qByte ∧ (c ++ p).length ≤ 1 + 6 * (i + 1) := by
      intro p hp
      have hqx := qByte_len x
      rw [hp] at hqx
      refine ⟨?_, by rw [List.length_append]; omega⟩
      rw [take_next hx, hcc, hp]
      simp
    have hf : ∀ (z : Int) (b : Bool), (b = true ↔ (y : Int) = z) → ((y : Int) == z) = b := by
      intro z b hb
      cases b with
      | true => simpa using hb
      | false => simpa using hb
    by_cases h34 : y = 34
    · have hq : qByte x = [92, x] := by rw [hxy, h34]; rfl
      obtain ⟨e1, e2⟩ := hn _ hq
      have e34 : ((y : Int) == 34) = true := hf 34 true (by simp; omega)
      have e92 : ((y : Int) == 92) = false := hf 92 false (by simp; omega)
      have e8 : ((y : Int) == 8) = false := hf 8 false (by simp; omega)
      have e12 : ((y : Int) == 12) = false := hf 12 false (by simp; omega)
      have e10 : ((y : Int) == 10) = false := hf 10 false (by simp; omega)
      have e13 : ((y : Int) == 13) = false := hf 13 false (by simp; omega)
      have e9 : ((y : Int) == 9) = false := hf 9 false (by simp; omega)
      refine walkBF (And.intro @bA_len (And.intro @str_size (And.intro @str_dl (And.intro hx (And.intro hy.symm (And.intro hw (And.intro e34 (And.intro e92 (And.intro e8 (And.intro e12 (And.intro e10 (And.intro e13 e9)))))))))))) ?_
      have hyx : (y : Int) = (x.toNat : Int) := by rw [hy]
      refine .next ⟨(i + 1, c ++ [92, x]), by simp only []; omega, e1, e2⟩ ?_ (by simp only []; omega)
      simp only [bA_len, bA_sc, Weak, eq_self, used_is, sc_any, sc_c, sc_pp, sc_ref, sc_row, sc_agg, sc_fn, ScL, some_imp, List.forall_mem_map, go_sem, Int.reduceBEq, Int.reduceLE, Int.reduceLT, Int.reduceNeg, Nat.reduceAdd, Nat.reduceEqDiff, Nat.reduceLT, Nat.reduceLeDiff, Nat.reduceMul, Nat.reduceSub, reduceCtorEq, ↓reduceIte]
      exact ⟨⟨by simp, cI (by omega)⟩, by simp [bA, hyx], Nat.le_refl _⟩
    by_cases h92 : y = 92
    · have hq : qByte x = [92, x] := by rw [hxy, h92]; rfl
      obtain ⟨e1, e2⟩ := hn _ hq
      have e34 : ((y : Int) == 34) = false := hf 34 false (by simp; omega)
      have e92 : ((y : Int) == 92) = true := hf 92 true (by simp; omega)
      have e8 : ((y : Int) == 8) = false := hf 8 false (by simp; omega)
      have e12 : ((y : Int) == 12) = false := hf 12 false (by simp; omega)
      have e10 : ((y : Int) == 10) = false := hf 10 false (by simp; omega)
      have e13 : ((y : Int) == 13) = false := hf 13 false (by simp; omega)
      have e9 : ((y : Int) == 9) = false := hf 9 false (by simp; omega)
      refine walkBF (And.intro @bA_len (And.intro @str_size (And.intro @str_dl (And.intro hx (And.intro hy.symm (And.intro hw (And.intro e34 (And.intro e92 (And.intro e8 (And.intro e12 (And.intro e10 (And.intro e13 e9)))))))))))) ?_
      have hyx : (y : Int) = (x.toNat : Int) := by rw [hy]
      refine .next ⟨(i + 1, c ++ [92, x]), by simp only []; omega, e1, e2⟩ ?_ (by simp only []; omega)
      simp only [bA_len, bA_sc, Weak, eq_self, used_is, sc_any, sc_c, sc_pp, sc_ref, sc_row, sc_agg, sc_fn, ScL, some_imp, List.forall_mem_map, go_sem, Int.reduceBEq, Int.reduceLE, Int.reduceLT, Int.reduceNeg, Nat.reduceAdd, Nat.reduceEqDiff, Nat.reduceLT, Nat.reduceLeDiff, Nat.reduceMul, Nat.reduceSub, reduceCtorEq, ↓reduceIte]
      exact ⟨⟨by simp, cI (by omega)⟩, by simp [bA, hyx], Nat.le_refl _⟩
    by_cases h8 : y = 8
    · have hq : qByte x = [92, 98] := by rw [hxy, h8]; rfl
      obtain ⟨e1, e2⟩ := hn _ hq
      have e34 : ((y : Int) == 34) = false := hf 34 false (by simp; omega)
      have e92 : ((y : Int) == 92) = false := hf 92 false (by simp; omega)
      have e8 : ((y : Int) == 8) = true := hf 8 true (by simp; omega)
      have e12 : ((y : Int) == 12) = false := hf 12 false (by simp; omega)
      have e10 : ((y : Int) == 10) = false := hf 10 false (by simp; omega)
      have e13 : ((y : Int) == 13) = false := hf 13 false (by simp; omega)
      have e9 : ((y : Int) == 9) = false := hf 9 false (by simp; omega)
      refine walkBF (And.intro @bA_len (And.intro @str_size (And.intro @str_dl (And.intro hx (And.intro hy.symm (And.intro hw (And.intro e34 (And.intro e92 (And.intro e8 (And.intro e12 (And.intro e10 (And.intro e13 e9)))))))))))) ?_
      refine .next ⟨(i + 1, c ++ [92, 98]), by simp only []; omega, e1, e2⟩ ?_ (by simp only []; omega)
      simp only [bA_len, bA_sc, Weak, eq_self, used_is, sc_any, sc_c, sc_pp, sc_ref, sc_row, sc_agg, sc_fn, ScL, some_imp, List.forall_mem_map, go_sem, Int.reduceBEq, Int.reduceLE, Int.reduceLT, Int.reduceNeg, Nat.reduceAdd, Nat.reduceEqDiff, Nat.reduceLT, Nat.reduceLeDiff, Nat.reduceMul, Nat.reduceSub, reduceCtorEq, ↓reduceIte]
      exact ⟨⟨by simp, cI (by omega)⟩, by simp [bA], Nat.le_refl _⟩
    by_cases h12 : y = 12
    · have hq : qByte x = [92, 102] := by rw [hxy, h12]; rfl
      obtain ⟨e1, e2⟩ := hn _ hq
      have e34 : ((y : Int) == 34) = false := hf 34 false (by simp; omega)
      have e92 : ((y : Int) == 92) = false := hf 92 false (by simp; omega)
      have e8 : ((y : Int) == 8) = false := hf 8 false (by simp; omega)
      have e12 : ((y : Int) == 12) = true := hf 12 true (by simp; omega)
      have e10 : ((y : Int) == 10) = false := hf 10 false (by simp; omega)
      have e13 : ((y : Int) == 13) = false := hf 13 false (by simp; omega)
      have e9 : ((y : Int) == 9) = false := hf 9 false (by simp; omega)
      refine walkBF (And.intro @bA_len (And.intro @str_size (And.intro @str_dl (And.intro hx (And.intro hy.symm (And.intro hw (And.intro e34 (And.intro e92 (And.intro e8 (And.intro e12 (And.intro e10 (And.intro e13 e9)))))))))))) ?_
      refine .next ⟨(i + 1, c ++ [92, 102]), by simp only []; omega, e1, e2⟩ ?_ (by simp only []; omega)
      simp only [bA_len, bA_sc, Weak, eq_self, used_is, sc_any, sc_c, sc_pp, sc_ref, sc_row, sc_agg, sc_fn, ScL, some_imp, List.forall_mem_map, go_sem, Int.reduceBEq, Int.reduceLE, Int.reduceLT, Int.reduceNeg, Nat.reduceAdd, Nat.reduceEqDiff, Nat.reduceLT, Nat.reduceLeDiff, Nat.reduceMul, Nat.reduceSub, reduceCtorEq, ↓reduceIte]
      exact ⟨⟨by simp, cI (by omega)⟩, by simp [bA], Nat.le_refl _⟩
    by_cases h10 : y = 10
    · have hq : qByte x = [92, 110] := by rw [hxy, h10]; rfl
      obtain ⟨e1, e2⟩ := hn _ hq
      have e34 : ((y : Int) == 34) = false := hf 34 false (by simp; omega)
      have e92 : ((y : Int) == 92) = false := hf 92 false (by simp; omega)
      have e8 : ((y : Int) == 8) = false := hf 8 false (by simp; omega)
      have e12 : ((y : Int) == 12) = false := hf 12 false (by simp; omega)
      have e10 : ((y : Int) == 10) = true := hf 10 true (by simp; omega)
      have e13 : ((y : Int) == 13) = false := hf 13 false (by simp; omega)
      have e9 : ((y : Int) == 9) = false := hf 9 false (by simp; omega)
      refine walkBF (And.intro @bA_len (And.intro @str_size (And.intro @str_dl (And.intro hx (And.intro hy.symm (And.intro hw (And.intro e34 (And.intro e92 (And.intro e8 (And.intro e12 (And.intro e10 (And.intro e13 e9)))))))))))) ?_
      refine .next ⟨(i + 1, c ++ [92, 110]), by simp only []; omega, e1, e2⟩ ?_ (by simp only []; omega)
      simp only [bA_len, bA_sc, Weak, eq_self, used_is, sc_any, sc_c, sc_pp, sc_ref, sc_row, sc_agg, sc_fn, ScL, some_imp, List.forall_mem_map, go_sem, Int.reduceBEq, Int.reduceLE, Int.reduceLT, Int.reduceNeg, Nat.reduceAdd, Nat.reduceEqDiff, Nat.reduceLT, Nat.reduceLeDiff, Nat.reduceMul, Nat.reduceSub, reduceCtorEq, ↓reduceIte]
      exact ⟨⟨by simp, cI (by omega)⟩, by simp [bA], Nat.le_refl _⟩
    by_cases h13 : y = 13
    · have hq : qByte x = [92, 114] := by rw [hxy, h13]; rfl
      obtain ⟨e1, e2⟩ := hn _ hq
      have e34 : ((y : Int) == 34) = false := hf 34 false (by simp; omega)
      have e92 : ((y : Int) == 92) = false := hf 92 false (by simp; omega)
      have e8 : ((y : Int) == 8) = false := hf 8 false (by simp; omega)
      have e12 : ((y : Int) == 12) = false := hf 12 false (by simp; omega)
      have e10 : ((y : Int) == 10) = false := hf 10 false (by simp; omega)
      have e13 : ((y : Int) == 13) = true := hf 13 true (by simp; omega)
      have e9 : ((y : Int) == 9) = false := hf 9 false (by simp; omega)
      refine walkBF (And.intro @bA_len (And.intro @str_size (And.intro @str_dl (And.intro hx (And.intro hy.symm (And.intro hw (And.intro e34 (And.intro e92 (And.intro e8 (And.intro e12 (And.intro e10 (And.intro e13 e9)))))))))))) ?_
      refine .next ⟨(i + 1, c ++ [92, 114]), by simp only []; omega, e1, e2⟩ ?_ (by simp only []; omega)
      simp only [bA_len, bA_sc, Weak, eq_self, used_is, sc_any, sc_c, sc_pp, sc_ref, sc_row, sc_agg, sc_fn, ScL, some_imp, List.forall_mem_map, go_sem, Int.reduceBEq, Int.reduceLE, Int.reduceLT, Int.reduceNeg, Nat.reduceAdd, Nat.reduceEqDiff, Nat.reduceLT, Nat.reduceLeDiff, Nat.reduceMul, Nat.reduceSub, reduceCtorEq, ↓reduceIte]
      exact ⟨⟨by simp, cI (by omega)⟩, by simp [bA], Nat.le_refl _⟩
    by_cases h9 : y = 9
    · have hq : qByte x = [92, 116] := by rw [hxy, h9]; rfl
      obtain ⟨e1, e2⟩ := hn _ hq
      have e34 : ((y : Int) == 34) = false := hf 34 false (by simp; omega)
      have e92 : ((y : Int) == 92) = false := hf 92 false (by simp; omega)
      have e8 : ((y : Int) == 8) = false := hf 8 false (by simp; omega)
      have e12 : ((y : Int) == 12) = false := hf 12 false (by simp; omega)
      have e10 : ((y : Int) == 10) = false := hf 10 false (by simp; omega)
      have e13 : ((y : Int) == 13) = false := hf 13 false (by simp; omega)
      have e9 : ((y : Int) == 9) = true := hf 9 true (by simp; omega)
      refine walkBF (And.intro @bA_len (And.intro @str_size (And.intro @str_dl (And.intro hx (And.intro hy.symm (And.intro hw (And.intro e34 (And.intro e92 (And.intro e8 (And.intro e12 (And.intro e10 (And.intro e13 e9)))))))))))) ?_
      refine .next ⟨(i + 1, c ++ [92, 116]), by simp only []; omega, e1, e2⟩ ?_ (by simp only []; omega)
      simp only [bA_len, bA_sc, Weak, eq_self, used_is, sc_any, sc_c, sc_pp, sc_ref, sc_row, sc_agg, sc_fn, ScL, some_imp, List.forall_mem_map, go_sem, Int.reduceBEq, Int.reduceLE, Int.reduceLT, Int.reduceNeg, Nat.reduceAdd, Nat.reduceEqDiff, Nat.reduceLT, Nat.reduceLeDiff, Nat.reduceMul, Nat.reduceSub, reduceCtorEq, ↓reduceIte]
      exact ⟨⟨by simp, cI (by omega)⟩, by simp [bA], Nat.le_refl _⟩
    have e34 : ((y : Int) == 34) = false := hf 34 false (by simp; omega)
    have e92 : ((y : Int) == 92) = false := hf 92 false (by simp; omega)
    have e8 : ((y : Int) == 8) = false := hf 8 false (by simp; omega)
    have e12 : ((y : Int) == 12) = false := hf 12 false (by simp; omega)
    have e10 : ((y : Int) == 10) = false := hf 10 false (by simp; omega)
    have e13 : ((y : Int) == 13) = false := hf 13 false (by simp; omega)
    have e9 : ((y : Int) == 9) = false := hf 9 false (by simp; omega)
    have hqb : qByte x = if y < 32 then [92, 117, 48, 48, hexD (y / 16), hexD (y % 16)] else [x] := by
      unfold qByte
      rw [← hy, if_neg h34, if_neg h92, if_neg h8, if_neg h12, if_neg h10, if_neg h13, if_neg h9]
    by_cases h32 : y < 32
    · rw [if_pos h32] at hqb
      obtain ⟨e1, e2⟩ := hn _ hqb
      have hd : decide ((y : Int) < 32) = true := by simp; omega
      have z1 : (⟨#[48, 49, 50, 51, 52, 53, 54, 55, 56, 57, 97, 98, 99, 100, 101, 102]⟩ : ByteArray).size = 16 := rfl
      have z2 : ∀ k : Nat, k < 16 → (((⟨#[48, 49, 50, 51, 52, 53, 54, 55, 56, 57, 97, 98, 99, 100, 101, 102]⟩ : ByteArray).data.toList)[k]?).getD 0 = hexD k := by decide +kernel
      have z3 : IntKind.u8.wrap ((y : Int).tdiv 16) = ((y / 16 : Nat) : Int) := by
        show IntKind.u8.wrap (((y / 16 : Nat) : Int)) = _
        rw [IntWalk.u8_in _ ⟨by omega, by omega⟩]
      have z4 : ((y : Int).tmod 16) = ((y % 16 : Nat) : Int) := rfl
      have z5 := z2 (y / 16) (by omega)
      have z6 := z2 (y % 16) (by omega)
      (repeat (first | refine pass ?_ | refine VC.region (by rfl) (by rfl) ?_ | (refine AO.step fun K hK => ?_; simp only [bA_len, str_size, str_dl, hx, ← hy, hw, e34, e92, e8, e12, e10, e13, e9, hd, z1, z3, z4, z5, z6, Int.toNat_natCast, go_sem, Int.reduceBEq, Int.reduceLE, Int.reduceLT, Int.reduceNeg, Nat.reduceAdd, Nat.reduceEqDiff, Nat.reduceLT, Nat.reduceLeDiff, Nat.reduceMul, Nat.reduceSub, reduceCtorEq, ↓reduceIte]; (first | refine gsel_skip ?_ | refine gsel_go ?_ | skip); (first | refine hK _ _ _ ?_ | refine ⟨by first | omega | exact ⟨_, rfl, rfl⟩ | exact fun _ => ⟨_, rfl, rfl⟩ | (intro h; simp only [bA_len, str_size, str_dl, hx, ← hy, hw, e34, e92, e8, e12, e10, e13, e9, hd, z1, z3, z4, z5, z6, Int.toNat_natCast, h, true_and]; omega) | (clear hK; intro h; simp_all), hK _ _ _ ?_⟩); clear hK K) | refine VC.draw mixP (by rfl) (by rfl) ?_ | refine ⟨okd_of (by kernel_rfl), ?_⟩ | refine BQ.other (by decide) ?_ | refine VC.seq ?_ | refine AO.nil ?_ | refine VC.block ?_ | refine VC.condT (by rfl) (by trivial) ?_ | refine VC.condF (by rfl) (by trivial) ?_))
      refine .next ⟨(i + 1, c ++ [92, 117, 48, 48, hexD (y / 16), hexD (y % 16)]), by simp only []; omega, e1, e2⟩ ?_ (by simp only []; omega)
      simp only [bA_len, bA_sc, Weak, eq_self, used_is, sc_any, sc_c, sc_pp, sc_ref, sc_row, sc_agg, sc_fn, ScL, some_imp, List.forall_mem_map, go_sem, Int.reduceBEq, Int.reduceLE, Int.reduceLT, Int.reduceNeg, Nat.reduceAdd, Nat.reduceEqDiff, Nat.reduceLT, Nat.reduceLeDiff, Nat.reduceMul, Nat.reduceSub, reduceCtorEq, ↓reduceIte]
      exact ⟨⟨by simp, cI (by omega)⟩, by simp [bA], Nat.le_refl _⟩
    · rw [if_neg h32] at hqb
      obtain ⟨e1, e2⟩ := hn _ hqb
      have hd : decide ((y : Int) < 32) = false := by simp; omega
      refine walkBF (And.intro @bA_len (And.intro @str_size (And.intro @str_dl (And.intro hx (And.intro hy.symm (And.intro hw (And.intro e34 (And.intro e92 (And.intro e8 (And.intro e12 (And.intro e10 (And.intro e13 (And.intro e9 hd))))))))))))) ?_
      have hyx : (y : Int) = (x.toNat : Int) := by rw [hy]
      refine .next ⟨(i + 1, c ++ [x]), by simp only []; omega, e1, e2⟩ ?_ (by simp only []; omega)
      simp only [bA_len, bA_sc, Weak, eq_self, used_is, sc_any, sc_c, sc_pp, sc_ref, sc_row, sc_agg, sc_fn, ScL, some_imp, List.forall_mem_map, go_sem, Int.reduceBEq, Int.reduceLE, Int.reduceLT, Int.reduceNeg, Nat.reduceAdd, Nat.reduceEqDiff, Nat.reduceLT, Nat.reduceLeDiff, Nat.reduceMul, Nat.reduceSub, reduceCtorEq, ↓reduceIte]
      exact ⟨⟨by simp, cI (by omega)⟩, by simp [bA, hyx], Nat.le_refl _⟩
  · have hge : i = s.length := by simp at hc; omega
    subst hge
    rw [List.take_length] at hcc
    have hfin : c ++ [34] = mQuote s := by rw [hcc, mQuote]; try simp
    refine walkGF (@bA_len) ?_
    (refine AO.step fun K hK => ?_; simp only [go_sem, Int.reduceBEq, Int.reduceLE, Int.reduceLT, Int.reduceNeg, Nat.reduceAdd, Nat.reduceEqDiff, Nat.reduceLT, Nat.reduceLeDiff, Nat.reduceMul, Nat.reduceSub, reduceCtorEq, ↓reduceIte, bA_len]; (first | refine gsel_go ?_ | skip))
    refine ⟨bytePV (c ++ [34]), ⟨by simp [bA], by rw [← bA_pv]; simp [bA], bytePV_ok _⟩, hK _ _ _ ?_⟩; clear hK K
    refine walkGF (@bytesOf_pv) ?_
    refine ⟨by first | exact .inr rfl | exact .inl rfl, ?_⟩; rw [Tryz.results29]; simp only [resOk, resV, go_sem, Int.reduceBEq, Int.reduceLE, Int.reduceLT, Int.reduceNeg, Nat.reduceAdd, Nat.reduceEqDiff, Nat.reduceLT, Nat.reduceLeDiff, Nat.reduceMul, Nat.reduceSub, reduceCtorEq, ↓reduceIte]
    rw [hfin]
    exact .c _

end Go.Proofs.YticfioblapjkmaaGreat
