/- The document's Text, as a contract over plain values (written by gen_rt.py). -/
import Derived.Test.YticfioblapjkmaaGreatRq
import Derived.Test.YticfioblapjkmaaGreatRn
import Derived.Test.YticfioblapjkmaaGreatPx
namespace Go.Proofs.YticfioblapjkmaaGreat
open Go.RowKit
set_option linter.unusedVariables false
set_option linter.unusedSimpArgs false
attribute [local go_sem] opx opE ev okx gcond bnd okO AV.get AV.okb cAV upd_at putd_some putd_none wrs_nil wrs_cons look_nil look_cons st argT_at bpick_and bpick_or bpick_true bpick_false binV binI binS binVOk binOk isShift binSOk unV unVOk loadV loadP cellsA zeroA Blkd.len setE grown moreA moreR moreOk eqRes pv fillA fillE putSeg AV.cellish AV.pureL AV.pureB lentL_is ex_some AV.ren AV.renL renL_c Blkd.ren rho wrM renN lentOk rhoE keepM endOk tyA_2 tyA_3 tyA_4 tyA_5 tyA_6 tyA_7 tyA_8 tyA_9 tyA_10 tyA_11 tyA_12 tyA_13 tyA_14 tyA_15 tyA_16 tyA_17 tyA_18 tyA_19 tyA_21 tyA_22 tyA_23 tyA_24 tyA_25 tyA_28 tyA_29 tyA_38 tyA_39 tyA_40 tyA_41 tyA_42 tyA_43 tyA_49 tyA_50 tyA_51 tyA_52 tyA_53 tyA_57 tyA_62 tyA_76 tyA_87 tyA_88 tyA_89 tyA_100 tyA_101 tyA_102 tyA_106 tyA_119 tyA_128 tyA_130 tyA_132 tyA_137 tyA_141 tyA_146 tyA_149 tyA_150 tyA_151 tyA_152 tyA_153 tyA_154 tyA_155 tyA_157 tyA_158 Option.map_some Option.map_none Option.getD_some Option.getD_none Option.bind_some Option.bind_none List.getElem?_cons_zero List.getElem?_cons_succ List.getElem?_nil List.getElem?_toArray List.length_cons List.length_nil List.length_map List.forall_mem_map List.map_cons List.map_nil List.drop_zero List.drop_succ_cons List.drop_nil List.take_zero List.take_succ_cons List.take_nil List.mem_cons List.not_mem_nil or_false forall_eq_or_imp forall_eq List.set_cons_zero List.set_cons_succ List.cons_append List.nil_append List.append_nil List.foldl_cons List.foldl_nil List.replicate_succ List.replicate_zero List.all_cons List.all_nil if_true if_false Bool.false_eq_true ne_eq not_false_eq_true not_true_eq_false true_and and_true and_self true_implies imp_self implies_true forall_const beq_self_eq_true Bool.and_true Bool.true_and Bool.and_false Bool.false_and Bool.or_true Bool.true_or Bool.or_false Bool.false_or Bool.not_true Bool.not_false Bool.not_eq_eq_eq_not intKindOf Value.oneCell' Int.toNat_natCast beq_true beq_false Bool.not_eq_true false_implies false_or true_or or_true Nat.zero_add Nat.add_zero decide_true decide_false Int.cast_ofNat_Int Int.toNat_zero Int.toNat_one eq_self

set_option maxRecDepth 100000 in
set_option maxHeartbeats 1600000 in
theorem rtxt_told : ∀ (m : Nat) (t : JT), SizeOf.sizeOf t ≤ m → t.sm 1000000000 → t.inr → ∀ d, jright d t = true → (tText t).length ≤ 1000000 → Told Tryz.prog 15 [t.av] (.c (.v (.string (str (tText t))))) := by
  intro m
  induction m with
  | zero =>
    intro t ht
    cases t
    simp at ht
  | succ m ih =>
  intro t ht hsm hin d hr hlen
  cases t with
  | mk k n s ks xs =>
  have hx : ∀ x ∈ xs, (tText x).length ≤ 1000000 → Told Tryz.prog 15 [x.av] (.c (.v (.string (str (tText x))))) := by
    intro x hxm hl
    rw [jright] at hr
    simp only [Bool.and_eq_true] at hr
    exact ih x (by have := List.sizeOf_lt_of_mem hxm; simp at ht; omega) (smL_mem hsm.2.2.2.2 x hxm) (inrL_mem hin.2 x hxm) (d + 1) (jrights_mem hr.2 x hxm) hl
  obtain ⟨hsl, hkl, hks, hxl, _⟩ := hsm
  obtain ⟨⟨hn1, hn2⟩, _⟩ := hin
  have hky : k = 6 → ks.length = xs.length := by
    intro h6
    rw [jright] at hr
    simp only [Bool.and_eq_true] at hr
    have := hr.1.1.2
    rw [jkeyed, if_neg (by omega)] at this
    simp at this
    exact this.1
  have hbn : k = 2 → n = 0 ∨ n = 1 := by
    intro h2
    rw [jright] at hr
    simp only [Bool.and_eq_true] at hr
    have := hr.1.1.1
    rw [jbare, h2] at this
    simp at this
    exact this.1.1
  have hk16 : 1 ≤ k ∧ k ≤ 6 := by
    rw [jright] at hr
    simp only [Bool.and_eq_true] at hr
    have := hr.1.1.1
    rw [jbare] at this
    repeat' split at this
    all_goals first | omega | (simp at this)
  clear ih ht hr
  simp only [JT.av]
  refine VC.told ent_15 Tryz.func15 rfl Tryz.ntmps15 (by simp) (by simp [AV.pureB, AV.pureL, cells_mk]) (by simp [AV.pureB, AV.pureL]) fun hb => ?_
  clear hb
  rcases (by omega : k = 1 ∨ k = 2 ∨ k = 3 ∨ k = 4 ∨ k = 5 ∨ k = 6) with hk1 | hk2 | hk3 | hk4 | hk5 | hk6
  · subst hk1
    have hF : tText (.mk 1 n s ks xs) = [110, 117, 108, 108] := by rw [tText]; simp
    rw [hF]
    refine walkBF (@cells_mk) ?_
    refine ⟨by first | exact .inr rfl | exact .inl rfl, ?_⟩; rw [Tryz.results15]; simp only [resOk, resV, go_sem, Int.reduceBEq, Int.reduceLE, Int.reduceLT, Int.reduceNeg, Nat.reduceAdd, Nat.reduceEqDiff, Nat.reduceLT, Nat.reduceLeDiff, Nat.reduceMul, Nat.reduceSub, reduceCtorEq, ↓reduceIte]
    exact .c _
  · subst hk2
    rcases hbn rfl with hn0 | hn0
    · subst hn0
      have hF : tText (.mk 2 0 s ks xs) = [102, 97, 108, 115, 101] := by rw [tText]; simp
      rw [hF]
      refine walkBF (@cells_mk) ?_
      refine ⟨by first | exact .inr rfl | exact .inl rfl, ?_⟩; rw [Tryz.results15]; simp only [resOk, resV, go_sem, Int.reduceBEq, Int.reduceLE, Int.reduceLT, Int.reduceNeg, Nat.reduceAdd, Nat.reduceEqDiff, Nat.reduceLT, Nat.reduceLeDiff, Nat.reduceMul, Nat.reduceSub, reduceCtorEq, ↓reduceIte]
      exact .c _
    · subst hn0
      have hF : tText (.mk 2 1 s ks xs) = [116, 114, 117, 101] := by rw [tText]; simp
      rw [hF]
      refine walkBF (@cells_mk) ?_
      refine ⟨by first | exact .inr rfl | exact .inl rfl, ?_⟩; rw [Tryz.results15]; simp only [resOk, resV, go_sem, Int.reduceBEq, Int.reduceLE, Int.reduceLT, Int.reduceNeg, Nat.reduceAdd, Nat.reduceEqDiff, Nat.reduceLT, Nat.reduceLeDiff, Nat.reduceMul, Nat.reduceSub, reduceCtorEq, ↓reduceIte]
      exact .c _
  · subst hk3
    have hF : tText (.mk 3 n s ks xs) = mNumb n := by rw [tText]; simp
    rw [hF]
    have hN := rnumber_told n hn1 hn2
    refine walkBF (@cells_mk) ?_
    refine walkCF (@cells_mk) (hN) ?_
    refine walkBF (@cells_mk) ?_
    refine ⟨by first | exact .inr rfl | exact .inl rfl, ?_⟩; rw [Tryz.results15]; simp only [resOk, resV, go_sem, Int.reduceBEq, Int.reduceLE, Int.reduceLT, Int.reduceNeg, Nat.reduceAdd, Nat.reduceEqDiff, Nat.reduceLT, Nat.reduceLeDiff, Nat.reduceMul, Nat.reduceSub, reduceCtorEq, ↓reduceIte]
    exact .c _
  · subst hk4
    have hF : tText (.mk 4 n s ks xs) = mQuote s := by rw [tText]; simp
    rw [hF]
    have hN := rquote_told s hsl
    refine walkBF (@cells_mk) ?_
    refine walkCF (@cells_mk) (hN) ?_
    refine walkBF (@cells_mk) ?_
    refine ⟨by first | exact .inr rfl | exact .inl rfl, ?_⟩; rw [Tryz.results15]; simp only [resOk, resV, go_sem, Int.reduceBEq, Int.reduceLE, Int.reduceLT, Int.reduceNeg, Nat.reduceAdd, Nat.reduceEqDiff, Nat.reduceLT, Nat.reduceLeDiff, Nat.reduceMul, Nat.reduceSub, reduceCtorEq, ↓reduceIte]
    exact .c _
  · subst hk5
    have hF : tText (.mk 5 n s ks xs) = [91] ++ tKids none 0 xs ++ [93] := by rw [tText]; simp
    rw [hF] at hlen ⊢
    obtain ⟨F, hFF⟩ : ∃ F, F = tKids none 0 xs := ⟨_, rfl⟩
    rw [← hFF] at hlen ⊢
    simp only [List.length_append, List.length_cons, List.length_nil] at hlen
    refine walkBF (@cells_mk) ?_
    refine VC.loop (ι := {q : Nat × List UInt8 // q.1 ≤ xs.length ∧ q.2 ++ tKids none q.1 (xs.drop q.1) = F})
      (fun q => [(1, .ref 0 1 0 0), (3, .c (.v (.string ⟨q.1.2.toArray⟩))), (4, .c (.v (.int .i64 (q.1.1 : Int))))]) (fun q => [(0, ⟨false, 25, 5, [(JT.mk 5 n s ks xs).cells.map .c]⟩)]) 400 (fun q => xs.length - q.1.1) ⟨(0, []), Nat.zero_le _, by simp [hFF]⟩ ?_ ?_
    · simp only [cells_mk, Weak, eq_self, used_is, sc_any, sc_c, sc_pp, sc_ref, sc_row, sc_agg, sc_fn, ScL, some_imp, List.forall_mem_map, go_sem, Int.reduceBEq, Int.reduceLE, Int.reduceLT, Int.reduceNeg, Nat.reduceAdd, Nat.reduceEqDiff, Nat.reduceLT, Nat.reduceLeDiff, Nat.reduceMul, Nat.reduceSub, reduceCtorEq, ↓reduceIte]
    rintro ⟨⟨i, S⟩, hi, hS⟩
    simp only [] at hi hS ⊢
    refine walkGF (@cells_mk) ?_
    refine VC.cond (by rfl) (by trivial) (fun hc => ?_) (fun hc => ?_)
    · have hlt : i < xs.length := by simp at hc; omega
      obtain ⟨x, hxi⟩ : ∃ x, xs[i]? = some x := ⟨xs[i], List.getElem?_eq_getElem hlt⟩
      have hxc : (xs.map JT.cells)[i]? = some x.cells := by rw [List.getElem?_map, hxi]; rfl
      have hw : IntKind.i64.wrap ((i : Int) + 1) = (i : Int) + 1 := wrap64_id (by omega) (by omega)
      have hxe : xs[i] = x := by rw [List.getElem?_eq_getElem hlt] at hxi; exact Option.some.inj hxi
      rw [List.drop_eq_getElem_cons hlt, hxe, tKids] at hS
      have hSl := congrArg List.length hS
      simp only [List.length_append] at hSl
      have hX := hx x (List.mem_of_getElem? hxi) (by omega)
      simp only [JT.av] at hX
      by_cases h0 : 0 < i
      · have hd : decide ((i : Int) > 0) = true := by simp; omega
        rw [if_pos h0] at hS hSl
        simp only [List.length_cons, List.length_nil] at hSl
        obtain ⟨S1, hS1⟩ : ∃ S1, S1 = S ++ [44] := ⟨_, rfl⟩
        have hs1 : (⟨S.toArray⟩ : ByteArray) ++ ⟨#[44]⟩ = ⟨S1.toArray⟩ := by rw [hS1]; exact str_add S [44]
        have hl1 : S1.length ≤ S.length + 1 := by rw [hS1]; simp
        have hz0 : (⟨#[44]⟩ : ByteArray).size = 1 := rfl
        have hz1 := bsz' S
        have hs2 : (⟨S1.toArray⟩ : ByteArray) ++ ⟨(tText x).toArray⟩ = ⟨(S1 ++ tText x).toArray⟩ := str_add _ _
        have hz2 := bsz' S1
        have hz3 := bsz' (tText x)
        refine walkBF (And.intro @cells_mk (And.intro hd (And.intro hs1 (And.intro hz0 (And.intro hz1 (And.intro hxc (And.intro @len_cells (And.intro @take_cells @take_cellsC)))))))) ?_
        refine walkCF (And.intro @len_cells (And.intro @take_cells (And.intro @take_cellsC @pureL_c))) (hX) ?_
        refine walkBF (And.intro @str_eq (And.intro hs2 (And.intro hz2 (And.intro hz3 hw)))) ?_
        refine .next ⟨(i + 1, S1 ++ tText x), by simp only []; omega, by simp only []; rw [← hS, hS1]; simp [tkey]⟩ ?_ (by simp only []; omega)
        simp only [cells_mk, Weak, eq_self, used_is, sc_any, sc_c, sc_pp, sc_ref, sc_row, sc_agg, sc_fn, ScL, some_imp, List.forall_mem_map, go_sem, Int.reduceBEq, Int.reduceLE, Int.reduceLT, Int.reduceNeg, Nat.reduceAdd, Nat.reduceEqDiff, Nat.reduceLT, Nat.reduceLeDiff, Nat.reduceMul, Nat.reduceSub, reduceCtorEq, ↓reduceIte]
        try exact cI (by omega)
      · have hd : decide ((i : Int) > 0) = false := by simp; omega
        rw [if_neg h0] at hS hSl
        simp only [List.length_cons, List.length_nil] at hSl
        obtain ⟨S1, hS1⟩ : ∃ S1, S1 = S ++ [] := ⟨_, rfl⟩
        have hs1 : S1 = S := by rw [hS1]; simp
        have hl1 : S1.length ≤ S.length + 1 := by rw [hS1]; simp
        have hz0 : (0 : Nat) = 0 := rfl
        have hz1 := bsz' S
        subst hs1
        have hs1 : (0 : Nat) = 0 := rfl
        have hs2 : (⟨S1.toArray⟩ : ByteArray) ++ ⟨(tText x).toArray⟩ = ⟨(S1 ++ tText x).toArray⟩ := str_add _ _
        have hz2 := bsz' S1
        have hz3 := bsz' (tText x)
        refine walkBF (And.intro @cells_mk (And.intro hd (And.intro hs1 (And.intro hz0 (And.intro hz1 (And.intro hxc (And.intro @len_cells (And.intro @take_cells @take_cellsC)))))))) ?_
        refine walkCF (And.intro @len_cells (And.intro @take_cells (And.intro @take_cellsC @pureL_c))) (hX) ?_
        refine walkBF (And.intro @str_eq (And.intro hs2 (And.intro hz2 (And.intro hz3 hw)))) ?_
        refine .next ⟨(i + 1, S1 ++ tText x), by simp only []; omega, by simp only []; rw [← hS, hS1]; simp [tkey]⟩ ?_ (by simp only []; omega)
        simp only [cells_mk, Weak, eq_self, used_is, sc_any, sc_c, sc_pp, sc_ref, sc_row, sc_agg, sc_fn, ScL, some_imp, List.forall_mem_map, go_sem, Int.reduceBEq, Int.reduceLE, Int.reduceLT, Int.reduceNeg, Nat.reduceAdd, Nat.reduceEqDiff, Nat.reduceLT, Nat.reduceLeDiff, Nat.reduceMul, Nat.reduceSub, reduceCtorEq, ↓reduceIte]
        try exact cI (by omega)
    · have hge : i = xs.length := by simp at hc; omega
      subst hge
      rw [List.drop_length, tKids, List.append_nil] at hS
      subst hS
      have he1 : (⟨#[91]⟩ : ByteArray) ++ ⟨S.toArray⟩ = ⟨([91] ++ S).toArray⟩ := str_add [91] S
      have he2 : (⟨([91] ++ S).toArray⟩ : ByteArray) ++ ⟨#[93]⟩ = ⟨([91] ++ S ++ [93]).toArray⟩ := str_add ([91] ++ S) [93]
      have he3 : (⟨#[91]⟩ : ByteArray).size = 1 := rfl
      have he4 : (⟨#[93]⟩ : ByteArray).size = 1 := rfl
      have he5 := bsz' S
      have he6 : (⟨([91] ++ S).toArray⟩ : ByteArray).size = S.length + 1 := by rw [bsz']; simp
      simp only [List.cons_append, List.nil_append] at he1 he2 he6 ⊢
      refine walkBF (And.intro @cells_mk (And.intro he1 (And.intro he2 (And.intro he3 (And.intro he4 (And.intro he5 he6)))))) ?_
      refine ⟨by first | exact .inr rfl | exact .inl rfl, ?_⟩; rw [Tryz.results15]; simp only [resOk, resV, go_sem, Int.reduceBEq, Int.reduceLE, Int.reduceLT, Int.reduceNeg, Nat.reduceAdd, Nat.reduceEqDiff, Nat.reduceLT, Nat.reduceLeDiff, Nat.reduceMul, Nat.reduceSub, reduceCtorEq, ↓reduceIte]
      exact .c _
  · subst hk6
    have hF : tText (.mk 6 n s ks xs) = [123] ++ tKids (some ks) 0 xs ++ [125] := by rw [tText]; simp
    rw [hF] at hlen ⊢
    obtain ⟨F, hFF⟩ : ∃ F, F = tKids (some ks) 0 xs := ⟨_, rfl⟩
    rw [← hFF] at hlen ⊢
    simp only [List.length_append, List.length_cons, List.length_nil] at hlen
    refine walkBF (@cells_mk) ?_
    refine VC.loop (ι := {q : Nat × List UInt8 // q.1 ≤ xs.length ∧ q.2 ++ tKids (some ks) q.1 (xs.drop q.1) = F})
      (fun q => [(1, .ref 0 1 0 0), (3, .c (.v (.string ⟨q.1.2.toArray⟩))), (4, .c (.v (.int .i64 (q.1.1 : Int))))]) (fun q => [(0, ⟨false, 25, 5, [(JT.mk 6 n s ks xs).cells.map .c]⟩)]) 400 (fun q => xs.length - q.1.1) ⟨(0, []), Nat.zero_le _, by simp [hFF]⟩ ?_ ?_
    · simp only [cells_mk, Weak, eq_self, used_is, sc_any, sc_c, sc_pp, sc_ref, sc_row, sc_agg, sc_fn, ScL, some_imp, List.forall_mem_map, go_sem, Int.reduceBEq, Int.reduceLE, Int.reduceLT, Int.reduceNeg, Nat.reduceAdd, Nat.reduceEqDiff, Nat.reduceLT, Nat.reduceLeDiff, Nat.reduceMul, Nat.reduceSub, reduceCtorEq, ↓reduceIte]
    rintro ⟨⟨i, S⟩, hi, hS⟩
    simp only [] at hi hS ⊢
    refine walkGF (@cells_mk) ?_
    refine VC.cond (by rfl) (by trivial) (fun hc => ?_) (fun hc => ?_)
    · have hlt : i < xs.length := by simp at hc; omega
      obtain ⟨x, hxi⟩ : ∃ x, xs[i]? = some x := ⟨xs[i], List.getElem?_eq_getElem hlt⟩
      have hxc : (xs.map JT.cells)[i]? = some x.cells := by rw [List.getElem?_map, hxi]; rfl
      have hw : IntKind.i64.wrap ((i : Int) + 1) = (i : Int) + 1 := wrap64_id (by omega) (by omega)
      have hxe : xs[i] = x := by rw [List.getElem?_eq_getElem hlt] at hxi; exact Option.some.inj hxi
      rw [List.drop_eq_getElem_cons hlt, hxe, tKids] at hS
      have hSl := congrArg List.length hS
      simp only [List.length_append] at hSl
      have hX := hx x (List.mem_of_getElem? hxi) (by omega)
      simp only [JT.av] at hX
      have hil : i < ks.length := by have := hky rfl; omega
      obtain ⟨ke, hke⟩ : ∃ ke, ks[i]? = some ke := ⟨ks[i], List.getElem?_eq_getElem hil⟩
      have hkc : (ks.map sPV)[i]? = some [.v (.string (str ke))] := by rw [List.getElem?_map, hke]; rfl
      have hKq := rquote_told ke (hks ke (List.mem_of_getElem? hke))
      have htk : tkey (some ks) i = mQuote ke ++ [58] := by simp [tkey, hke]
      rw [htk] at hS hSl
      simp only [List.length_append] at hSl
      by_cases h0 : 0 < i
      · have hd : decide ((i : Int) > 0) = true := by simp; omega
        rw [if_pos h0] at hS hSl
        simp only [List.length_cons, List.length_nil] at hSl
        obtain ⟨S1, hS1⟩ : ∃ S1, S1 = S ++ [44] := ⟨_, rfl⟩
        have hs1 : (⟨S.toArray⟩ : ByteArray) ++ ⟨#[44]⟩ = ⟨S1.toArray⟩ := by rw [hS1]; exact str_add S [44]
        have hl1 : S1.length ≤ S.length + 1 := by rw [hS1]; simp
        have hz0 : (⟨#[44]⟩ : ByteArray).size = 1 := rfl
        have hz1 := bsz' S
        have hs3 : (⟨S1.toArray⟩ : ByteArray) ++ ⟨(mQuote ke).toArray⟩ = ⟨(S1 ++ mQuote ke).toArray⟩ := str_add _ _
        have hs4 : (⟨(S1 ++ mQuote ke).toArray⟩ : ByteArray) ++ ⟨#[58]⟩ = ⟨(S1 ++ mQuote ke ++ [58]).toArray⟩ := str_add _ [58]
        obtain ⟨S2, hS2⟩ : ∃ S2, S2 = S1 ++ mQuote ke ++ [58] := ⟨_, rfl⟩
        rw [← hS2] at hs4
        have hl2 : S2.length = S1.length + (mQuote ke).length + 1 := by rw [hS2]; simp; omega
        have hs2 : (⟨S2.toArray⟩ : ByteArray) ++ ⟨(tText x).toArray⟩ = ⟨(S2 ++ tText x).toArray⟩ := str_add _ _
        have hz2 := bsz' S1
        have hz3 := bsz' (tText x)
        have hz4 := bsz' (mQuote ke)
        have hz5 : (⟨(S1 ++ mQuote ke).toArray⟩ : ByteArray).size = S1.length + (mQuote ke).length := by rw [bsz']; simp
        have hz6 := bsz' S2
        have hz7 : (⟨#[58]⟩ : ByteArray).size = 1 := rfl
        refine walkBF (And.intro @cells_mk (And.intro hd (And.intro hs1 (And.intro hz0 (And.intro hz1 (And.intro hkc (And.intro hxc (And.intro @len_cells (And.intro @take_cells @take_cellsC))))))))) ?_
        refine walkC (hKq) ?_
        refine walkBF (And.intro @str_eq (And.intro @cells_mk (And.intro hs3 (And.intro hs4 (And.intro hz2 (And.intro hz4 (And.intro hz5 (And.intro hz7 (And.intro hxc (And.intro @len_cells (And.intro @take_cells @take_cellsC))))))))))) ?_
        refine walkCF (And.intro @len_cells (And.intro @take_cells (And.intro @take_cellsC @pureL_c))) (hX) ?_
        refine walkBF (And.intro @str_eq (And.intro hs2 (And.intro hz6 (And.intro hz3 hw)))) ?_
        refine .next ⟨(i + 1, S2 ++ tText x), by simp only []; omega, by simp only []; rw [← hS, hS2, hS1]; simp⟩ ?_ (by simp only []; omega)
        simp only [cells_mk, Weak, eq_self, used_is, sc_any, sc_c, sc_pp, sc_ref, sc_row, sc_agg, sc_fn, ScL, some_imp, List.forall_mem_map, go_sem, Int.reduceBEq, Int.reduceLE, Int.reduceLT, Int.reduceNeg, Nat.reduceAdd, Nat.reduceEqDiff, Nat.reduceLT, Nat.reduceLeDiff, Nat.reduceMul, Nat.reduceSub, reduceCtorEq, ↓reduceIte]
        try exact cI (by omega)
      · have hd : decide ((i : Int) > 0) = false := by simp; omega
        rw [if_neg h0] at hS hSl
        simp only [List.length_cons, List.length_nil] at hSl
        obtain ⟨S1, hS1⟩ : ∃ S1, S1 = S ++ [] := ⟨_, rfl⟩
        have hs1 : S1 = S := by rw [hS1]; simp
        have hl1 : S1.length ≤ S.length + 1 := by rw [hS1]; simp
        have hz0 : (0 : Nat) = 0 := rfl
        have hz1 := bsz' S
        subst hs1
        have hs1 : (0 : Nat) = 0 := rfl
        have hs3 : (⟨S1.toArray⟩ : ByteArray) ++ ⟨(mQuote ke).toArray⟩ = ⟨(S1 ++ mQuote ke).toArray⟩ := str_add _ _
        have hs4 : (⟨(S1 ++ mQuote ke).toArray⟩ : ByteArray) ++ ⟨#[58]⟩ = ⟨(S1 ++ mQuote ke ++ [58]).toArray⟩ := str_add _ [58]
        obtain ⟨S2, hS2⟩ : ∃ S2, S2 = S1 ++ mQuote ke ++ [58] := ⟨_, rfl⟩
        rw [← hS2] at hs4
        have hl2 : S2.length = S1.length + (mQuote ke).length + 1 := by rw [hS2]; simp; omega
        have hs2 : (⟨S2.toArray⟩ : ByteArray) ++ ⟨(tText x).toArray⟩ = ⟨(S2 ++ tText x).toArray⟩ := str_add _ _
        have hz2 := bsz' S1
        have hz3 := bsz' (tText x)
        have hz4 := bsz' (mQuote ke)
        have hz5 : (⟨(S1 ++ mQuote ke).toArray⟩ : ByteArray).size = S1.length + (mQuote ke).length := by rw [bsz']; simp
        have hz6 := bsz' S2
        have hz7 : (⟨#[58]⟩ : ByteArray).size = 1 := rfl
        refine walkBF (And.intro @cells_mk (And.intro hd (And.intro hs1 (And.intro hz0 (And.intro hz1 (And.intro hkc (And.intro hxc (And.intro @len_cells (And.intro @take_cells @take_cellsC))))))))) ?_
        refine walkC (hKq) ?_
        refine walkBF (And.intro @str_eq (And.intro @cells_mk (And.intro hs3 (And.intro hs4 (And.intro hz2 (And.intro hz4 (And.intro hz5 (And.intro hz7 (And.intro hxc (And.intro @len_cells (And.intro @take_cells @take_cellsC))))))))))) ?_
        refine walkCF (And.intro @len_cells (And.intro @take_cells (And.intro @take_cellsC @pureL_c))) (hX) ?_
        refine walkBF (And.intro @str_eq (And.intro hs2 (And.intro hz6 (And.intro hz3 hw)))) ?_
        refine .next ⟨(i + 1, S2 ++ tText x), by simp only []; omega, by simp only []; rw [← hS, hS2, hS1]; simp⟩ ?_ (by simp only []; omega)
        simp only [cells_mk, Weak, eq_self, used_is, sc_any, sc_c, sc_pp, sc_ref, sc_row, sc_agg, sc_fn, ScL, some_imp, List.forall_mem_map, go_sem, Int.reduceBEq, Int.reduceLE, Int.reduceLT, Int.reduceNeg, Nat.reduceAdd, Nat.reduceEqDiff, Nat.reduceLT, Nat.reduceLeDiff, Nat.reduceMul, Nat.reduceSub, reduceCtorEq, ↓reduceIte]
        try exact cI (by omega)
    · have hge : i = xs.length := by simp at hc; omega
      subst hge
      rw [List.drop_length, tKids, List.append_nil] at hS
      subst hS
      have he1 : (⟨#[123]⟩ : ByteArray) ++ ⟨S.toArray⟩ = ⟨([123] ++ S).toArray⟩ := str_add [123] S
      have he2 : (⟨([123] ++ S).toArray⟩ : ByteArray) ++ ⟨#[125]⟩ = ⟨([123] ++ S ++ [125]).toArray⟩ := str_add ([123] ++ S) [125]
      have he3 : (⟨#[123]⟩ : ByteArray).size = 1 := rfl
      have he4 : (⟨#[125]⟩ : ByteArray).size = 1 := rfl
      have he5 := bsz' S
      have he6 : (⟨([123] ++ S).toArray⟩ : ByteArray).size = S.length + 1 := by rw [bsz']; simp
      simp only [List.cons_append, List.nil_append] at he1 he2 he6 ⊢
      refine walkBF (And.intro @cells_mk (And.intro he1 (And.intro he2 (And.intro he3 (And.intro he4 (And.intro he5 he6)))))) ?_
      refine ⟨by first | exact .inr rfl | exact .inl rfl, ?_⟩; rw [Tryz.results15]; simp only [resOk, resV, go_sem, Int.reduceBEq, Int.reduceLE, Int.reduceLT, Int.reduceNeg, Nat.reduceAdd, Nat.reduceEqDiff, Nat.reduceLT, Nat.reduceLeDiff, Nat.reduceMul, Nat.reduceSub, reduceCtorEq, ↓reduceIte]
      exact .c _

end Go.Proofs.YticfioblapjkmaaGreat
