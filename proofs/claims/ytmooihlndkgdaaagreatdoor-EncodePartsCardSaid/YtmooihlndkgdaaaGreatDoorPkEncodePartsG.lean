/- Texts that lead to the law EncodeParts, joined. -/
import Derived.Test.YtmooihlndkgdaaaGreatDoorPkEncodePartsF
import Derived.Test.YtmooihlndkgdaaaGreatDoorRows
import Derived.Test.YtmooihlndkgdaaaGreatDoorPkEncodePartsC
import Derived.Test.YtmooihlndkgdaaaGreatDoorPkEncodePartsA
import Derived.MakeChecks
import Derived.LaidMore
import Derived.OpenShut
namespace Go.Proofs.YtmooihlndkgdaaaGreatDoor
open Go.RowKit
set_option linter.unusedVariables false
set_option linter.unusedSimpArgs false
section
attribute [local go_sem] opx opE ev okx gcond bnd okO AV.get AV.okb cAV upd_at putd_some putd_none wrs_nil wrs_cons look_nil look_cons st argT_at bpick_and bpick_or bpick_true bpick_false binV binI binS binVOk binOk isShift binSOk unV unVOk loadV loadP cellsA zeroA Blkd.len setE grown moreA moreR moreOk eqRes pv fillA fillE putSeg AV.cellish AV.pureL AV.pureB lentL_is ex_some AV.ren AV.renL renL_c Blkd.ren rho wrM renN lentOk rhoE keepM endOk tyA_2 tyA_3 tyA_4 tyA_5 tyA_6 tyA_7 tyA_8 tyA_9 tyA_10 tyA_11 tyA_12 tyA_13 tyA_14 tyA_15 tyA_16 tyA_17 tyA_18 tyA_19 tyA_21 tyA_22 tyA_23 tyA_24 tyA_29 tyA_30 tyA_31 tyA_32 tyA_33 tyA_34 tyA_35 tyA_36 tyA_37 tyA_38 tyA_39 tyA_40 tyA_41 tyA_42 tyA_43 tyA_51 tyA_73 tyA_77 tyA_99 tyA_100 tyA_101 tyA_114 tyA_120 tyA_121 tyA_122 tyA_131 tyA_132 tyA_133 tyA_134 tyA_135 tyA_138 tyA_139 tyA_140 tyA_149 tyA_163 tyA_168 tyA_210 tyA_212 tyA_219 tyA_227 tyA_231 tyA_233 tyA_237 tyA_238 tyA_239 tyA_240 tyA_241 tyA_243 tyA_244 tyA_246 tyA_247 tyA_248 tyA_251 Option.map_some Option.map_none Option.getD_some Option.getD_none Option.bind_some Option.bind_none List.getElem?_cons_zero List.getElem?_cons_succ List.getElem?_nil List.getElem?_toArray List.length_cons List.length_nil List.length_map List.forall_mem_map List.map_cons List.map_nil List.drop_zero List.drop_succ_cons List.drop_nil List.take_zero List.take_succ_cons List.take_nil List.mem_cons List.not_mem_nil or_false forall_eq_or_imp forall_eq List.set_cons_zero List.set_cons_succ List.cons_append List.nil_append List.append_nil List.foldl_cons List.foldl_nil List.replicate_succ List.replicate_zero List.all_cons List.all_nil if_true if_false Bool.false_eq_true ne_eq not_false_eq_true not_true_eq_false true_and and_true and_self true_implies imp_self implies_true forall_const beq_self_eq_true Bool.and_true Bool.true_and Bool.and_false Bool.false_and Bool.or_true Bool.true_or Bool.or_false Bool.false_or Bool.not_true Bool.not_false Bool.not_eq_eq_eq_not intKindOf Value.oneCell' Int.toNat_natCast beq_true beq_false Bool.not_eq_true false_implies false_or true_or or_true Nat.zero_add Nat.add_zero decide_true decide_false Int.cast_ofNat_Int Int.toNat_zero Int.toNat_one eq_self

theorem vdeeps_ge : ∀ (xs : List VT) (m : Nat), m ≤ vdeeps m xs
  | [], m => by rw [vdeeps]; exact Nat.le_refl _
  | x :: xs, m => by
    rw [vdeeps]
    exact Nat.le_trans (Nat.le_max_left _ _) (vdeeps_ge xs _)
theorem vdeeps_mem : ∀ (xs : List VT) (m : Nat), ∀ x ∈ xs, 1 + vdeep x ≤ vdeeps m xs
  | [], m => by simp
  | y :: ys, m => by
    intro x hx
    rw [vdeeps]
    rcases List.mem_cons.1 hx with rfl | hx
    · exact Nat.le_trans (Nat.le_max_right _ _) (vdeeps_ge ys _)
    · exact vdeeps_mem ys _ x hx
theorem vwL_mem : ∀ (xs : List VT), ∀ x ∈ xs, vw x ≤ vwL xs
  | [] => by simp
  | y :: ys => by
    intro x hx
    rw [vwL]
    rcases List.mem_cons.1 hx with rfl | hx
    · omega
    · have := vwL_mem ys x hx
      omega
set_option maxRecDepth 100000 in
set_option maxHeartbeats 3200000 in
theorem encparts_told (s : ST) (a : Int) (v : VT) (hi : v.inr ∧ v.lng) : Told Tryz.prog 8 [s.av, .c (.v (.int .i64 a)), v.av] (.c (.v (.bool true))) := by
  have hS := sgreat_told s
  have hG := vgreat_told v
  rw [ST.av_eq] at hS ⊢
  rw [VT.av_eq] at hG ⊢
  by_cases hs : 2500 < sbulk s
  · have e1 : decide (2500 < (sbulk s : Int)) = true := by simp; omega
    rw [e1] at hS
    refine VC.told ent_8 Tryz.func8 rfl Tryz.ntmps8 (by simp) (by first | rfl | simp [AV.pureB, AV.pureL, pureL_c, pures]) (by first | rfl | simp [AV.pureB, AV.pureL, pureL_c, pures]) fun hb => ?_
    clear hb
    refine walkG ?_
    refine walkC (works18_told) ?_
    refine walkBF (And.intro @len_scells (And.intro @take_scells @take_scellsC)) ?_
    refine walkCF (@pureL_c) (hS) ?_
    refine walkB ?_
    refine ⟨by first | exact .inr rfl | exact .inl rfl, ?_⟩; rw [Tryz.results8]; simp only [resOk, resV, go_sem, Int.reduceBEq, Int.reduceLE, Int.reduceLT, Int.reduceNeg, Nat.reduceAdd, Nat.reduceEqDiff, Nat.reduceLT, Nat.reduceLeDiff, Nat.reduceMul, Nat.reduceSub, reduceCtorEq, ↓reduceIte]
    exact .c _
  have e1 : decide (2500 < (sbulk s : Int)) = false := by simp; omega
  rw [e1] at hS
  by_cases hv : 2500 < vbulk 0 v
  · have e2 : decide (2500 < vbulk 0 v) = true := by simpa using hv
    rw [e2] at hG
    refine VC.told ent_8 Tryz.func8 rfl Tryz.ntmps8 (by simp) (by first | rfl | simp [AV.pureB, AV.pureL, pureL_c, pures]) (by first | rfl | simp [AV.pureB, AV.pureL, pureL_c, pures]) fun hb => ?_
    clear hb
    refine walkG ?_
    refine walkC (works18_told) ?_
    refine walkBF (And.intro @len_scells (And.intro @take_scells @take_scellsC)) ?_
    refine walkCF (@pureL_c) (hS) ?_
    refine walkGF (And.intro @len_vcells (And.intro @take_vcells @take_vcellsC)) ?_
    refine walkCF (@pureL_c) (hG) ?_
    refine walkB ?_
    refine ⟨by first | exact .inr rfl | exact .inl rfl, ?_⟩; rw [Tryz.results8]; simp only [resOk, resV, go_sem, Int.reduceBEq, Int.reduceLE, Int.reduceLT, Int.reduceNeg, Nat.reduceAdd, Nat.reduceEqDiff, Nat.reduceLT, Nat.reduceLeDiff, Nat.reduceMul, Nat.reduceSub, reduceCtorEq, ↓reduceIte]
    exact .c _
  have e2 : decide (2500 < vbulk 0 v) = false := by simpa using hv
  rw [e2] at hG
  have hsm := ssm_le' (sbulk_sm (s := s) (by omega))
  have hvm := vsm_le (show (2500 : Nat) ≤ 1000000 by omega) v (vbulk_sm 0 v hi.1 (by omega))
  have d1 := vbulk_deep 0 v (by omega)
  have g1 := vbulk_vw 0 v (by omega)
  have hA := eput_told s hsm v hvm hi.2 (by omega) (by omega) a
  rw [ST.av_eq, VT.av_eq] at hA
  rcases outM_cases s a v with ⟨e, he, ho⟩ | ⟨ho, hc, hd20, hl2⟩
  · rw [ho] at hA
    refine VC.told ent_8 Tryz.func8 rfl Tryz.ntmps8 (by simp) (by first | rfl | simp [AV.pureB, AV.pureL, pureL_c, pures]) (by first | rfl | simp [AV.pureB, AV.pureL, pureL_c, pures]) fun hb => ?_
    clear hb
    refine walkG ?_
    refine walkC (works18_told) ?_
    refine walkBF (And.intro @len_scells (And.intro @take_scells @take_scellsC)) ?_
    refine walkCF (@pureL_c) (hS) ?_
    refine walkGF (And.intro @len_vcells (And.intro @take_vcells @take_vcellsC)) ?_
    refine walkCF (@pureL_c) (hG) ?_
    refine walkBF (And.intro @len_scells (And.intro @take_scells (And.intro @take_scellsC (And.intro @len_vcells (And.intro @take_vcells @take_vcellsC))))) ?_
    refine walkCF (@pureL_c) (hA) ?_
    refine walkBF (he) ?_
    refine ⟨by first | exact .inr rfl | exact .inl rfl, ?_⟩; rw [Tryz.results8]; simp only [resOk, resV, go_sem, Int.reduceBEq, Int.reduceLE, Int.reduceLT, Int.reduceNeg, Nat.reduceAdd, Nat.reduceEqDiff, Nat.reduceLT, Nat.reduceLeDiff, Nat.reduceMul, Nat.reduceSub, reduceCtorEq, ↓reduceIte]
    exact .c _
  rw [ho] at hA
  obtain ⟨a0, a1, hr, hm⟩ := conM_parts hc
  obtain ⟨p, rfl⟩ : ∃ p : Nat, a = (p : Int) := ⟨a.toNat, by omega⟩
  obtain ⟨nd, hnd⟩ : ∃ nd, s.nodes[p]? = some nd := ⟨s.nodes[p]'(by omega), List.getElem?_eq_getElem (by omega)⟩
  have hnp : (s.nodes.map NT.cells)[p]? = some nd.cells := by rw [List.getElem?_map, hnd]; rfl
  have hnd' : s.nodes[((p : Int)).toNat]? = some nd := by rw [Int.toNat_natCast]; exact hnd
  have f1 : decide ((p : Int) < 0) = false := by simp
  have f2 : decide ((p : Int) ≥ (s.nodes.length : Int)) = false := by simp; omega
  by_cases hk : nd.kind ≠ 9 ∧ nd.kind ≠ 13
  · have k9 : (nd.kind != 9) = true := by simpa using hk.1
    have k13 : (nd.kind != 13) = true := by simpa using hk.2
    refine VC.told ent_8 Tryz.func8 rfl Tryz.ntmps8 (by simp) (by first | rfl | simp [AV.pureB, AV.pureL, pureL_c, pures]) (by first | rfl | simp [AV.pureB, AV.pureL, pureL_c, pures]) fun hb => ?_
    clear hb
    refine walkG ?_
    refine walkC (works18_told) ?_
    refine walkBF (And.intro @len_scells (And.intro @take_scells @take_scellsC)) ?_
    refine walkCF (@pureL_c) (hS) ?_
    refine walkGF (And.intro @len_vcells (And.intro @take_vcells @take_vcellsC)) ?_
    refine walkCF (@pureL_c) (hG) ?_
    refine walkBF (And.intro @len_scells (And.intro @take_scells (And.intro @take_scellsC (And.intro @len_vcells (And.intro @take_vcells @take_vcellsC))))) ?_
    refine walkCF (@pureL_c) (hA) ?_
    refine walkBF (And.intro f1 (And.intro f2 (And.intro @scells_mk (And.intro hnp (And.intro @ncells_mk (And.intro k9 k13)))))) ?_
    refine ⟨by first | exact .inr rfl | exact .inl rfl, ?_⟩; rw [Tryz.results8]; simp only [resOk, resV, go_sem, Int.reduceBEq, Int.reduceLE, Int.reduceLT, Int.reduceNeg, Nat.reduceAdd, Nat.reduceEqDiff, Nat.reduceLT, Nat.reduceLeDiff, Nat.reduceMul, Nat.reduceSub, reduceCtorEq, ↓reduceIte]
    exact .c _
  have hbl := (hsm.2 nd (List.mem_of_getElem? hnd)).2.2.2.2.1
  have hfl := (hsm.2 nd (List.mem_of_getElem? hnd)).2.2.2.2.2.1
  have hU : nd.kind = 13 → nd.branches.length ≤ 10 := fun h13 => by
    have hN := right_nodes hr nd (List.mem_of_getElem? hnd)
    unfold nodeM at hN
    simp only [Bool.and_eq_true] at hN
    have hU := hN.2.2
    rw [h13, if_neg (by decide), if_neg (by decide), if_neg (by decide), if_pos rfl] at hU
    unfold unionM at hU
    simp only [Bool.and_eq_true, decide_eq_true_eq] at hU
    exact hU.2.1
  cases v with
  | mk k n b t xs ks =>
  obtain ⟨rfl, hvb, _, p9, _, p13, _, _, _⟩ := isM_parts hnd' hm
  have hit : ∀ (i : Nat) (x : VT), xs[i]? = some x → Told Tryz.prog 33 [.agg (s.cells.map .c), .c (.v (.int .i64 (itemAt nd n i))), .agg (x.cells.map .c)] (.tup [.c (.sl 1 (bytePV (encP s.nodes (itemAt nd n i) x))), .c (.v (.int .i64 0))]) := fun i x hx => by
    have hI := item_in hr hnd' hm hx
    have hmem := List.mem_of_getElem? hx
    have hdx : vdeep x ≤ 20 := by
      have := vdeeps_mem xs 1 x hmem
      rw [vdeep, if_pos (by omega)] at hd20
      omega
    have hwx : vw x ≤ 2500 := by
      have := vwL_mem xs x hmem
      rw [vw] at g1
      omega
    have hex : (encP s.nodes (itemAt nd n i) x).length ≤ 20000 := by
      rw [encP_eq hnd'] at hl2
      by_cases h9 : nd.kind = 9
      · rw [if_pos h9] at hl2
        have := catP_le s.nodes xs (fun j => typeAt nd j) i x hx
        rw [itemAt, if_pos h9]
        exact Nat.le_trans this hl2
      · have h13 : nd.kind = 13 := by omega
        rw [if_neg h9, if_neg (by omega), if_neg (by omega), if_pos h13, List.length_append] at hl2
        have := catP_le s.nodes xs (fun _ => branchAt nd n) i x hx
        rw [itemAt, if_neg h9, if_pos h13]
        exact Nat.le_trans this (by omega)
    have := eput_told s hsm x (vsmL_mem hvm.2.2.2.2.2 x hmem) (vlngL_mem hi.2.2 x hmem) (by omega) (by omega) (itemAt nd n i)
    rw [outM_ok (conM_of hI.2.1 hI.2.2.1 hr hI.1) hdx hex, ST.av_eq, VT.av_eq] at this
    exact this
  have hxl := hvm.2.2.2.2.1
  obtain ⟨T, hT⟩ : ∃ T, T = encP s.nodes (p : Int) (.mk nd.kind n b t xs ks) := ⟨_, rfl⟩
  rw [← hT] at hA hl2
  have hTT : ((⟨T.toArray⟩ : ByteArray).toList == (⟨T.toArray⟩ : ByteArray).toList) = true := by simp
  by_cases h9 : nd.kind = 9
  · have k9 : (nd.kind != 9) = false := by simpa using h9
    have j9 : (nd.kind == 9) = true := by simpa using h9
    have j13 : (nd.kind == 13) = false := by simp; omega
    have jl : ((xs.length : Int) != (nd.fields.length : Int)) = false := by rw [p9 h9]; simp
    obtain ⟨M, hM⟩ : ∃ M : Nat → List UInt8, M = fun i => catP s.nodes (fun j => typeAt nd j) (xs.take i) := ⟨_, rfl⟩
    have hM0 : M 0 = [] := by rw [hM]; exact catP_nil _ _
    have hMs : ∀ (i : Nat) (x : VT), xs[i]? = some x → M (i + 1) = M i ++ encP s.nodes (itemAt nd n i) x := fun i x hx => by
      rw [hM, itemAt, if_pos h9]
      exact catP_take s.nodes xs _ i x hx
    have hMe : M xs.length = T := by
      rw [hM, hT, encP_eq hnd', if_pos h9]
      simp
    have hMb : ∀ i, i ≤ xs.length → (M i).length ≤ 20000 := by
      have key : ∀ k i, i + k = xs.length → (M i).length ≤ 20000 := by
        intro k
        induction k with
        | zero =>
          intro i h
          obtain rfl : i = xs.length := by omega
          rw [hMe]
          exact hl2
        | succ k ih =>
          intro i h
          have := ih (i + 1) (by omega)
          rw [hMs i (xs[i]'(by omega)) (List.getElem?_eq_getElem (by omega)), List.length_append] at this
          omega
      intro i h
      exact key (xs.length - i) i (by omega)
    clear hM hT
    refine VC.told ent_8 Tryz.func8 rfl Tryz.ntmps8 (by simp) (by first | rfl | simp [AV.pureB, AV.pureL, pureL_c, pures]) (by first | rfl | simp [AV.pureB, AV.pureL, pureL_c, pures]) fun hb => ?_
    clear hb
    refine walkG ?_
    refine walkC (works18_told) ?_
    refine walkBF (And.intro @len_scells (And.intro @take_scells @take_scellsC)) ?_
    refine walkCF (@pureL_c) (hS) ?_
    refine walkGF (And.intro @len_vcells (And.intro @take_vcells @take_vcellsC)) ?_
    refine walkCF (@pureL_c) (hG) ?_
    refine walkBF (And.intro @len_scells (And.intro @take_scells (And.intro @take_scellsC (And.intro @len_vcells (And.intro @take_vcells @take_vcellsC))))) ?_
    refine walkCF (@pureL_c) (hA) ?_
    (repeat (first | refine pass ?_ | refine VC.region (by rfl) (by rfl) ?_ | (refine AO.step fun K hK => ?_; simp only [f1, f2, scells_mk, hnp, ncells_mk, vcells_mk, k9, j9, j13, jl, bstr, go_sem, Int.reduceBEq, Int.reduceLE, Int.reduceLT, Int.reduceNeg, Nat.reduceAdd, Nat.reduceEqDiff, Nat.reduceLT, Nat.reduceLeDiff, Nat.reduceMul, Nat.reduceSub, reduceCtorEq, ↓reduceIte]; (first | refine gsel_skip ?_ | refine gsel_go ?_ | skip); (first | refine hK _ _ _ ?_ | refine ⟨by first | omega | exact ⟨_, rfl, rfl⟩ | exact fun _ => ⟨_, rfl, rfl⟩ | (intro h; simp only [f1, f2, scells_mk, hnp, ncells_mk, vcells_mk, k9, j9, j13, jl, bstr, h, true_and]; omega) | (clear hK; intro h; simp_all <;> omega), hK _ _ _ ?_⟩); clear hK K) | refine VC.draw mixP (by rfl) (by rfl) ?_ | refine ⟨okd_of (by kernel_rfl), ?_⟩ | refine BQ.other (by decide) ?_ | refine VC.seq ?_ | refine AO.nil ?_ | refine VC.block ?_ | refine VC.condT (by rfl) (by trivial) ?_ | refine VC.condF (by rfl) (by trivial) ?_))
    refine VC.nil 10 5 1 (by rfl) (by trivial) (by rfl) ?_
    refine VC.loop (ι := {i : Nat // i ≤ xs.length}) (fun q => [(1, .c (.v (.int .i64 (p : Int)))), (3, .ref 0 1 0 0), (5, .ref 8 1 0 0), (7, .c (.sl 1 (bytePV T))), (9, .ref 288 1 0 0), (10, .row 648 (M q.1).length), (86, .c (.sl 6 (xs.map VT.cells))), (87, .c (.v (.int .i64 (xs.length : Int)))), (88, .c (.v (.int .i64 (q.1 : Int))))])
      (fun q => [(0, ⟨false, 24, 2, [s.cells.map .c]⟩), (8, ⟨false, 43, 6, [(VT.mk nd.kind n b t xs ks).cells.map .c]⟩), (288, ⟨false, 33, 10, [nd.cells.map .c]⟩), (648, ⟨true, 5, 1, bA (M q.1)⟩)]) 800 (fun q => xs.length - q.1) ⟨0, Nat.zero_le _⟩ ?_ ?_
    · simp only [vcells_mk, ncells_mk, scells_mk, hM0, bA_nil, List.length_nil, Weak, eq_self, used_is, sc_any, sc_c, sc_pp, sc_ref, sc_row, sc_agg, sc_fn, ScL, some_imp, List.forall_mem_map, go_sem, Int.reduceBEq, Int.reduceLE, Int.reduceLT, Int.reduceNeg, Nat.reduceAdd, Nat.reduceEqDiff, Nat.reduceLT, Nat.reduceLeDiff, Nat.reduceMul, Nat.reduceSub, reduceCtorEq, ↓reduceIte]
      try simp
    rintro ⟨i, hib⟩
    simp only []
    refine walkG ?_
    refine VC.cond (by rfl) (by trivial) (fun hc2 => ?_) (fun hc2 => ?_)
    rotate_left
    · obtain rfl : i = xs.length := by simp at hc2; omega
      rw [hMe]
      refine walkGF (And.intro @bytesOf_pv pvOk18) ?_
      (refine AO.step fun K hK => ?_; simp only [go_sem, Int.reduceBEq, Int.reduceLE, Int.reduceLT, Int.reduceNeg, Nat.reduceAdd, Nat.reduceEqDiff, Nat.reduceLT, Nat.reduceLeDiff, Nat.reduceMul, Nat.reduceSub, reduceCtorEq, ↓reduceIte, bA_len]; (first | refine gsel_go ?_ | skip))
      refine ⟨bytePV T, ⟨bA_pv T, bytePV_ok T⟩, hK _ _ _ ?_⟩; clear hK K
      refine walkGF (And.intro @bytesOf_pv hTT) ?_
      refine ⟨by first | exact .inr rfl | exact .inl rfl, ?_⟩; rw [Tryz.results8]; simp only [resOk, resV, go_sem, Int.reduceBEq, Int.reduceLE, Int.reduceLT, Int.reduceNeg, Nat.reduceAdd, Nat.reduceEqDiff, Nat.reduceLT, Nat.reduceLeDiff, Nat.reduceMul, Nat.reduceSub, reduceCtorEq, ↓reduceIte]
      exact .c _
    have hlt : i < xs.length := by simp at hc2; omega
    obtain ⟨x, hx⟩ : ∃ x, xs[i]? = some x := ⟨xs[i], List.getElem?_eq_getElem hlt⟩
    have hxp : (xs.map VT.cells)[i]? = some x.cells := by rw [List.getElem?_map, hx]; rfl
    have hw : IntKind.i64.wrap ((i : Int) + 1) = (i : Int) + 1 := wrap64_id (by omega) (by omega)
    have hP := hit i x hx
    rw [scells_mk] at hP
    have hMn := hMs i x hx
    have hMl := hMb i (by omega)
    have hMk := hMb (i + 1) (by omega)
    obtain ⟨f, hf⟩ : ∃ f, nd.fields[i]? = some f := ⟨nd.fields[i]'(by rw [← p9 h9]; exact hlt), List.getElem?_eq_getElem _⟩
    have hfp : (nd.fields.map FT.cells)[i]? = some f.cells := by rw [List.getElem?_map, hf]; rfl
    have hz : itemAt nd n i = f.type := by rw [itemAt, if_pos h9, typeAt, hf]
    rw [hz] at hP hMn
    generalize encP s.nodes f.type x = E at hP hMn
    have hbo : bA (M i) ++ (bytePV E).map (fun e => e.map AV.c) = bA (M (i + 1)) := by rw [hMn, ← bA_app]; congr 1; exact (bA_pv E).symm
    have hle : (M i).length + E.length = (M (i + 1)).length := by rw [hMn]; simp
    refine walkBF (And.intro @vcells_mk (And.intro @ncells_mk (And.intro @scells_mk (And.intro hxp (And.intro @len_vcells (And.intro @take_vcells (And.intro @take_vcellsC (And.intro j13 (And.intro hfp (And.intro @fcells_mk (And.intro @len_cells (And.intro @take_cells @take_cellsC)))))))))))) ?_
    refine walkCF (@pureL_c) (hP) ?_
    refine walkBF (And.intro @bA_len (And.intro @bytePV_len (And.intro hbo (And.intro hle hw)))) ?_
    refine .next ⟨i + 1, by omega⟩ ?_ (by simp only []; omega)
    simp only [vcells_mk, ncells_mk, scells_mk, bA_len, bA_sc, Weak, eq_self, used_is, sc_any, sc_c, sc_pp, sc_ref, sc_row, sc_agg, sc_fn, ScL, some_imp, List.forall_mem_map, go_sem, Int.reduceBEq, Int.reduceLE, Int.reduceLT, Int.reduceNeg, Nat.reduceAdd, Nat.reduceEqDiff, Nat.reduceLT, Nat.reduceLeDiff, Nat.reduceMul, Nat.reduceSub, reduceCtorEq, ↓reduceIte]
    exact ⟨cI (by omega), Nat.le_refl _⟩
  · have h13 : nd.kind = 13 := by omega
    have k9 : (nd.kind != 9) = true := by simpa using h9
    have j9 : (nd.kind == 9) = false := by simpa using h9
    have k13 : (nd.kind != 13) = false := by simpa using h13
    have j13 : (nd.kind == 13) = true := by simpa using h13
    obtain ⟨q0, q1, q2⟩ := p13 h13
    obtain ⟨q, rfl⟩ : ∃ q : Nat, n = (q : Int) := ⟨n.toNat, by omega⟩
    have hb10 := hU h13
    have u1 : decide ((q : Int) < 0) = false := by simp
    have u2 : decide ((q : Int) ≥ (nd.branches.length : Int)) = false := by simp; omega
    obtain ⟨y, hy⟩ : ∃ y, xs = [y] := List.length_eq_one_iff.1 q2
    obtain ⟨M, hM⟩ : ∃ M : Nat → List UInt8, M = fun i => if i = 0 then [] else T := ⟨_, rfl⟩
    have hM0 : M 0 = [] := by rw [hM]; rfl
    have hMs : ∀ (i : Nat) (x : VT), xs[i]? = some x → i = 0 ∧ M (i + 1) = (M i ++ [(2 * q).toUInt8]) ++ encP s.nodes (itemAt nd (q : Int) i) x := fun i x hx => by
      have hi0 : i = 0 := by
        have := (List.getElem?_eq_some_iff.1 hx).1
        omega
      subst hi0
      refine ⟨rfl, ?_⟩
      have hxy : x = y := by rw [hy] at hx; exact (Option.some.inj hx).symm
      subst hxy
      have hz : zigN (q : Int) = 2 * q := by unfold zigN; rw [if_pos (by omega)]; omega
      rw [hM, itemAt, if_neg h9, if_pos h13]
      show T = [] ++ [(2 * q).toUInt8] ++ encP s.nodes (branchAt nd (q : Int)) x
      rw [hT, encP_eq hnd', if_neg h9, if_neg (by omega), if_neg (by omega), if_pos h13, hy, catP_cons, catP_nil, vput_lo _ (by rw [hz]; omega), hz, List.append_nil]
      rfl
    have hMe : M xs.length = T := by
      rw [hM, q2]
      rfl
    have hMb : ∀ i, i ≤ xs.length → (M i).length ≤ 20000 := by
      intro i h
      rw [hM]
      simp only []
      split
      · simp
      · exact hl2
    clear hM hT
    refine VC.told ent_8 Tryz.func8 rfl Tryz.ntmps8 (by simp) (by first | rfl | simp [AV.pureB, AV.pureL, pureL_c, pures]) (by first | rfl | simp [AV.pureB, AV.pureL, pureL_c, pures]) fun hb => ?_
    clear hb
    refine walkG ?_
    refine walkC (works18_told) ?_
    refine walkBF (And.intro @len_scells (And.intro @take_scells @take_scellsC)) ?_
    refine walkCF (@pureL_c) (hS) ?_
    refine walkGF (And.intro @len_vcells (And.intro @take_vcells @take_vcellsC)) ?_
    refine walkCF (@pureL_c) (hG) ?_
    refine walkBF (And.intro @len_scells (And.intro @take_scells (And.intro @take_scellsC (And.intro @len_vcells (And.intro @take_vcells @take_vcellsC))))) ?_
    refine walkCF (@pureL_c) (hA) ?_
    (repeat (first | refine pass ?_ | refine VC.region (by rfl) (by rfl) ?_ | (refine AO.step fun K hK => ?_; simp only [f1, f2, scells_mk, hnp, ncells_mk, vcells_mk, k9, j9, k13, j13, u1, u2, bstr, go_sem, Int.reduceBEq, Int.reduceLE, Int.reduceLT, Int.reduceNeg, Nat.reduceAdd, Nat.reduceEqDiff, Nat.reduceLT, Nat.reduceLeDiff, Nat.reduceMul, Nat.reduceSub, reduceCtorEq, ↓reduceIte]; (first | refine gsel_skip ?_ | refine gsel_go ?_ | skip); (first | refine hK _ _ _ ?_ | refine ⟨by first | omega | exact ⟨_, rfl, rfl⟩ | exact fun _ => ⟨_, rfl, rfl⟩ | (intro h; simp only [f1, f2, scells_mk, hnp, ncells_mk, vcells_mk, k9, j9, k13, j13, u1, u2, bstr, h, true_and]; omega) | (clear hK; intro h; simp_all <;> omega), hK _ _ _ ?_⟩); clear hK K) | refine VC.draw mixP (by rfl) (by rfl) ?_ | refine ⟨okd_of (by kernel_rfl), ?_⟩ | refine BQ.other (by decide) ?_ | refine VC.seq ?_ | refine AO.nil ?_ | refine VC.block ?_ | refine VC.condT (by rfl) (by trivial) ?_ | refine VC.condF (by rfl) (by trivial) ?_))
    refine VC.nil 10 5 1 (by rfl) (by trivial) (by rfl) ?_
    refine VC.loop (ι := {i : Nat // i ≤ xs.length}) (fun z => [(1, .c (.v (.int .i64 (p : Int)))), (3, .ref 0 1 0 0), (5, .ref 8 1 0 0), (7, .c (.sl 1 (bytePV T))), (9, .ref 288 1 0 0), (10, .row 648 (M z.1).length), (86, .c (.sl 6 (xs.map VT.cells))), (87, .c (.v (.int .i64 (xs.length : Int)))), (88, .c (.v (.int .i64 (z.1 : Int))))])
      (fun z => [(0, ⟨false, 24, 2, [s.cells.map .c]⟩), (8, ⟨false, 43, 6, [(VT.mk nd.kind (q : Int) b t xs ks).cells.map .c]⟩), (288, ⟨false, 33, 10, [nd.cells.map .c]⟩), (648, ⟨true, 5, 1, bA (M z.1)⟩)]) 800 (fun z => xs.length - z.1) ⟨0, Nat.zero_le _⟩ ?_ ?_
    · simp only [vcells_mk, ncells_mk, scells_mk, hM0, bA_nil, List.length_nil, Weak, eq_self, used_is, sc_any, sc_c, sc_pp, sc_ref, sc_row, sc_agg, sc_fn, ScL, some_imp, List.forall_mem_map, go_sem, Int.reduceBEq, Int.reduceLE, Int.reduceLT, Int.reduceNeg, Nat.reduceAdd, Nat.reduceEqDiff, Nat.reduceLT, Nat.reduceLeDiff, Nat.reduceMul, Nat.reduceSub, reduceCtorEq, ↓reduceIte]
      try simp
    rintro ⟨i, hib⟩
    simp only []
    refine walkG ?_
    refine VC.cond (by rfl) (by trivial) (fun hc2 => ?_) (fun hc2 => ?_)
    rotate_left
    · obtain rfl : i = xs.length := by simp at hc2; omega
      rw [hMe]
      refine walkGF (And.intro @bytesOf_pv pvOk18) ?_
      (refine AO.step fun K hK => ?_; simp only [go_sem, Int.reduceBEq, Int.reduceLE, Int.reduceLT, Int.reduceNeg, Nat.reduceAdd, Nat.reduceEqDiff, Nat.reduceLT, Nat.reduceLeDiff, Nat.reduceMul, Nat.reduceSub, reduceCtorEq, ↓reduceIte, bA_len]; (first | refine gsel_go ?_ | skip))
      refine ⟨bytePV T, ⟨bA_pv T, bytePV_ok T⟩, hK _ _ _ ?_⟩; clear hK K
      refine walkGF (And.intro @bytesOf_pv hTT) ?_
      refine ⟨by first | exact .inr rfl | exact .inl rfl, ?_⟩; rw [Tryz.results8]; simp only [resOk, resV, go_sem, Int.reduceBEq, Int.reduceLE, Int.reduceLT, Int.reduceNeg, Nat.reduceAdd, Nat.reduceEqDiff, Nat.reduceLT, Nat.reduceLeDiff, Nat.reduceMul, Nat.reduceSub, reduceCtorEq, ↓reduceIte]
      exact .c _
    have hlt : i < xs.length := by simp at hc2; omega
    obtain ⟨x, hx⟩ : ∃ x, xs[i]? = some x := ⟨xs[i], List.getElem?_eq_getElem hlt⟩
    have hxp : (xs.map VT.cells)[i]? = some x.cells := by rw [List.getElem?_map, hx]; rfl
    have hw : IntKind.i64.wrap ((i : Int) + 1) = (i : Int) + 1 := wrap64_id (by omega) (by omega)
    have hP := hit i x hx
    rw [scells_mk] at hP
    have hMn := hMs i x hx
    have hMl := hMb i (by omega)
    have hMk := hMb (i + 1) (by omega)
    obtain ⟨hi0, hMn⟩ := hMn
    subst hi0
    have hMk : (M 1).length ≤ 20000 := hMk
    have hw1 : IntKind.i64.wrap 1 = 1 := rfl
    obtain ⟨f, hf⟩ : ∃ f, nd.branches[q]? = some f := ⟨nd.branches[q]'(by omega), List.getElem?_eq_getElem (by omega)⟩
    have hfp : (nd.branches.map iPV)[q]? = some (iPV f) := by rw [List.getElem?_map, hf]; rfl
    have hz : itemAt nd (q : Int) 0 = f := by rw [itemAt, if_neg h9, if_pos h13, branchAt, Int.toNat_natCast, hf]
    rw [hz] at hP hMn
    generalize encP s.nodes f x = E at hP hMn
    obtain ⟨m1, hm1⟩ : ∃ m1, m1 = M 0 ++ [(2 * q).toUInt8] := ⟨_, rfl⟩
    rw [← hm1] at hMn
    have hMn : M 1 = m1 ++ E := hMn
    have hbo1 : bA (M 0) ++ [[AV.c (.v (.int .u8 (((2 * q).toUInt8).toNat : Int)))]] = bA m1 := by rw [hm1]; exact bA_one _ _
    have hle1 : (M 0).length + 1 = m1.length := by rw [hm1]; simp
    have hbo : bA m1 ++ (bytePV E).map (fun e => e.map AV.c) = bA (M 1) := by rw [hMn, ← bA_app]; congr 1; exact (bA_pv E).symm
    have hle : m1.length + E.length = (M 1).length := by rw [hMn]; simp
    have hw8 : IntKind.u8.wrap (IntKind.i64.wrap (2 * (q : Int))) = (((2 * q).toUInt8).toNat : Int) := by
      rw [wrap64_id (by omega) (by omega), IntKind.wrap_u8]
      simp
    refine walkBF (And.intro @vcells_mk (And.intro @ncells_mk (And.intro @scells_mk (And.intro hxp (And.intro @len_vcells (And.intro @take_vcells (And.intro @take_vcellsC (And.intro j13 (And.intro hfp (And.intro @iPV_eq (And.intro @bA_len (And.intro hw8 (And.intro hbo1 hle1))))))))))))) ?_
    refine walkCF (@pureL_c) (hP) ?_
    refine walkBF (And.intro @bA_len (And.intro @bytePV_len (And.intro hbo (And.intro hle (And.intro hw hw1))))) ?_
    refine .next ⟨1, by omega⟩ ?_ (by simp only []; omega)
    simp only [vcells_mk, ncells_mk, scells_mk, bA_len, bA_sc, Weak, eq_self, used_is, sc_any, sc_c, sc_pp, sc_ref, sc_row, sc_agg, sc_fn, ScL, some_imp, List.forall_mem_map, go_sem, Int.reduceBEq, Int.reduceLE, Int.reduceLT, Int.reduceNeg, Nat.reduceAdd, Nat.reduceEqDiff, Nat.reduceLT, Nat.reduceLeDiff, Nat.reduceMul, Nat.reduceSub, reduceCtorEq, ↓reduceIte]
    exact ⟨rfl, Nat.le_refl _⟩
end
section

theorem gWords : Tryz.prog.globalNamed "avocet/naming.words" = some 0 := by kernel_rfl
theorem tWords : (Tryz.prog.globals[0]?).map (·.type) = some 163 := by kernel_rfl
theorem uWords : Tryz.prog.underlying 163 = some (.array 15 9) := by kernel_rfl
theorem cWords : Tryz.prog.cellsOf 9 = 1 := by kernel_rfl
theorem onlyWords : ((List.range Tryz.prog.globals.size).all fun g => g == 0 || (glob Tryz.prog g).isNone) = true := by kernel_rfl
theorem globWords : glob Tryz.prog 0 = some (kwords.map fun w => PV.v (.string (str w))) := by kernel_rfl
theorem words_cells {W : World} (h : laidMetH Tryz.prog [("avocet/naming.words", Rows.laid_avocet_naming_words)] W) :
    ∃ cs : Array Value, (∀ i, W.cell? ⟨0, i, none⟩ = cs[i]?) ∧ cs.size = 15 ∧ ∀ (i : Nat) (w : List UInt8), kwords[i]? = some w → cs[i]? = some (.string (str w)) := by
  rw [MakeChecks.laidMetH_plain _ _ _ (by kernel_rfl)] at h
  obtain ⟨ps, ⟨g0, t0, cs0, f0, p0, q0, hg0, ht0, hv0, hd0, _, _⟩, _, _⟩ := h
  obtain rfl := Option.some.inj (gWords.symm.trans hg0)
  obtain rfl := Option.some.inj (tWords.symm.trans ht0)
  obtain ⟨xs, m1, rfl, hx1, hlen, hn15, hel⟩ := DataW.trod_array uWords hd0
  simp only [Rows.laid_avocet_naming_words, Prod.mk.injEq, DataW.agg.injEq] at hx1
  have hx2 : kwords.map (fun w => (DataW.lit (.string w) : DataW Unit)) = xs.map (·.1) := hx1.1
  have hat : ∀ i, i < 15 → ∃ s : ByteArray, cs0[i]? = some (.string s) ∧ ∃ x, xs[i]? = some x ∧ x.1 = .lit (.string s.data.toList) := by
    intro i hi
    obtain ⟨x, hx⟩ : ∃ x, xs[i]? = some x := ⟨xs[i]'(by omega), List.getElem?_eq_getElem (by omega)⟩
    have h1 := hel i hi
    rw [hx] at h1
    obtain ⟨s, e1, e2, _⟩ := DataW.trod_string Tryz.underlying9 h1
    rw [cWords, Nat.mul_one] at e1
    refine ⟨s, ?_, x, hx, by rw [e2]⟩
    have h2 : (cs0.toList.drop i)[0]? = some (.string s) := by
      have h3 : ((cs0.toList.drop i).take 1)[0]? = some (.string s) := by rw [e1]; rfl
      rwa [List.getElem?_take_of_lt (by decide)] at h3
    rw [List.getElem?_drop, Nat.add_zero] at h2
    simpa using h2
  refine ⟨cs0, fun i => World.var?_cell hg0 hv0 i, ?_, fun i w hw => ?_⟩
  · have := hlen
    rw [show Tryz.prog.cellsOf 163 = 15 by kernel_rfl] at this
    simpa using this
  · have hi : i < 15 := (List.getElem?_eq_some_iff.1 hw).1
    obtain ⟨s, h1, x, h2, h3⟩ := hat i hi
    have h4 : (xs.map (·.1))[i]? = some (.lit (.string w)) := by rw [← hx2, List.getElem?_map, hw]; rfl
    rw [List.getElem?_map, h2] at h4
    have h5 : x.1 = .lit (.string w) := Option.some.inj h4
    rw [h3] at h5
    have h6 : s.data.toList = w := Lit.string.inj (DataW.lit.inj h5)
    have h7 : s = str w := by
      apply ByteArray.ext
      rw [← h6]
      show s.data = s.data.toList.toArray
      exact (Array.toArray_toList).symm
    rw [h1, h7]
theorem gok_words {W : World} (h : laidMetH Tryz.prog [("avocet/naming.words", Rows.laid_avocet_naming_words)] W) : GOk Tryz.prog W (fun k => k < W.heap.size) := by
  obtain ⟨cs, h1, h2, h3⟩ := words_cells h
  intro g cells hc
  have hg : g = 0 := by
    by_cases hlt : g < Tryz.prog.globals.size
    · have := List.all_eq_true.1 onlyWords g (List.mem_range.2 hlt)
      rw [hc] at this
      simpa using this
    · unfold glob at hc
      rw [Array.getElem?_eq_none (by omega)] at hc
      simp at hc
  subst hg
  rw [globWords] at hc
  obtain rfl := Option.some.inj hc
  refine ⟨?_, cs.toList, fun j hj => ?_, ⟨by simp [h2, kwords], fun j p v hp hv => ?_⟩⟩
  · have h4 := h1 0
    rw [h3 0 [] rfl] at h4
    by_cases hlt : 0 < W.heap.size
    · exact hlt
    · unfold World.cell? at h4
      simp only [] at h4
      rw [Array.getElem?_eq_none (by omega)] at h4
      simp at h4
  · rw [Nat.zero_add, h1 j]
    simp
  · rw [List.getElem?_map] at hp
    cases hw : kwords[j]? with
    | none => rw [hw] at hp; simp at hp
    | some w =>
      rw [hw] at hp
      obtain rfl := Option.some.inj hp
      have h5 := h3 j w hw
      rw [Array.getElem?_toList] at hv
      rw [h5] at hv
      obtain rfl := Option.some.inj hv
      exact .v rfl
section
variable {P : Program} {w : World}
theorem law_toldG (hg : GOk P w (fun k => k < w.heap.size)) {f : FuncId} {args : List AV} (hT : Told P f args (.c (.v (.bool true)))) {vs : List Value} (hl : vs.length = args.length) (hr : ∀ (j : Nat) (x : AV) (v : Value), args[j]? = some x → vs[j]? = some v → Rep w (fun b => b < w.heap.size) φ0 h0 x v) :
    Calls P f vs.toArray w fun e W' => e = .returned (.bool true) ∧ Below w.heap.size w W' := by
  refine (hT.2 w (fun k => k < w.heap.size) vs (fun _ h => h) hg ⟨hl, hr⟩).mono ?_
  rintro e W' ⟨v, ro', rfl, hb, _, _, hr, _⟩
  obtain rfl := rep_prim hr
  exact ⟨rfl, hb⟩
end
end
end Go.Proofs.YtmooihlndkgdaaaGreatDoor
