/- Texts that lead to the law ValueConforms, joined. -/
import Derived.Test.YtmooihlndkgdaaaGreatDoorPkValueConformsB
import Derived.Test.YtmooihlndkgdaaaGreatDoorPkValueConformsC
import Derived.Test.YtmooihlndkgdaaaGreatDoorPkValueConformsXAbB
import Derived.Test.YtmooihlndkgdaaaGreatDoorPkValueConformsA
namespace Go.Proofs.YtmooihlndkgdaaaGreatDoor
open Go.RowKit
set_option linter.unusedVariables false
set_option linter.unusedSimpArgs false
section
attribute [local go_sem] opx opE ev okx gcond bnd okO AV.get AV.okb cAV upd_at putd_some putd_none wrs_nil wrs_cons look_nil look_cons st argT_at bpick_and bpick_or bpick_true bpick_false binV binI binS binVOk binOk isShift binSOk unV unVOk loadV loadP cellsA zeroA Blkd.len setE grown moreA moreR moreOk eqRes pv fillA fillE putSeg AV.cellish AV.pureL AV.pureB lentL_is ex_some AV.ren AV.renL renL_c Blkd.ren rho wrM renN lentOk rhoE keepM endOk tyA_2 tyA_3 tyA_4 tyA_5 tyA_6 tyA_7 tyA_8 tyA_9 tyA_10 tyA_11 tyA_12 tyA_13 tyA_14 tyA_15 tyA_16 tyA_17 tyA_18 tyA_19 tyA_21 tyA_22 tyA_23 tyA_24 tyA_29 tyA_30 tyA_31 tyA_32 tyA_33 tyA_34 tyA_35 tyA_36 tyA_37 tyA_38 tyA_39 tyA_40 tyA_41 tyA_42 tyA_43 tyA_51 tyA_73 tyA_77 tyA_99 tyA_100 tyA_101 tyA_114 tyA_120 tyA_121 tyA_122 tyA_131 tyA_132 tyA_133 tyA_134 tyA_135 tyA_138 tyA_139 tyA_140 tyA_149 tyA_163 tyA_168 tyA_210 tyA_212 tyA_219 tyA_227 tyA_231 tyA_233 tyA_237 tyA_238 tyA_239 tyA_240 tyA_241 tyA_243 tyA_244 tyA_246 tyA_247 tyA_248 tyA_251 Option.map_some Option.map_none Option.getD_some Option.getD_none Option.bind_some Option.bind_none List.getElem?_cons_zero List.getElem?_cons_succ List.getElem?_nil List.getElem?_toArray List.length_cons List.length_nil List.length_map List.forall_mem_map List.map_cons List.map_nil List.drop_zero List.drop_succ_cons List.drop_nil List.take_zero List.take_succ_cons List.take_nil List.mem_cons List.not_mem_nil or_false forall_eq_or_imp forall_eq List.set_cons_zero List.set_cons_succ List.cons_append List.nil_append List.append_nil List.foldl_cons List.foldl_nil List.replicate_succ List.replicate_zero List.all_cons List.all_nil if_true if_false Bool.false_eq_true ne_eq not_false_eq_true not_true_eq_false true_and and_true and_self true_implies imp_self implies_true forall_const beq_self_eq_true Bool.and_true Bool.true_and Bool.and_false Bool.false_and Bool.or_true Bool.true_or Bool.or_false Bool.false_or Bool.not_true Bool.not_false Bool.not_eq_eq_eq_not intKindOf Value.oneCell' Int.toNat_natCast beq_true beq_false Bool.not_eq_true false_implies false_or true_or or_true Nat.zero_add Nat.add_zero decide_true decide_false Int.cast_ofNat_Int Int.toNat_zero Int.toNat_one eq_self

def wB (ns : List NT) (r : Int) (p : Nat) : Blkd := ⟨false, 122, 3, [[.c (.sl 10 (ns.map NT.cells)), .c (.v (.int .i64 r)), .c (.v (.int .i64 (p : Int)))]]⟩
theorem kids_len {n : NT} (h : n.sm 1000000) : (kidsN n).length ≤ 1000000 := by
  unfold kidsN
  have h1 := h.2.2.2.2.1
  have h2 := h.2.2.2.2.2.1
  split
  · simpa using h2
  · split
    · simp
    · split
      · exact h1
      · simp
theorem drop_at' {α : Type} {l : List α} {i : Nat} {x : α} (h : l[i]? = some x) : l.drop i = x :: l.drop (i + 1) := by
  obtain ⟨hlt, rfl⟩ := List.getElem?_eq_some_iff.1 h
  exact List.drop_eq_getElem_cons hlt
set_option maxRecDepth 100000 in
set_option maxHeartbeats 1600000 in
theorem walk_told (ns : List NT) (r : Int) (hl : ns.length ≤ 1000000) (hs : ∀ n ∈ ns, n.sm 1000000) : ∀ (d : Nat) (z : Int), z = 33 - (d : Int) → d ≤ 33 → ∀ p : Nat, p ≤ ns.length →
    ToldM Tryz.prog 101 [.ref 1000000 1 0 0, .c (.v (.int .i64 z))] [wB ns r p] [some (wB ns r (walkM ns d p).2)] (.c (.v (.bool (walkM ns d p).1))) := by
  intro d
  induction d with
  | zero =>
    intro z hz hd p hp
    have hz2 : decide (z > 32) = true := by simp; omega
    rw [walkM]
    unfold wB
    refine VC.toldM ent_101 [] Tryz.func101 rfl Tryz.ntmps101 (by simp) (by simp only [ScM, zOk, inL, eq_self, used_is, sc_any, sc_c, sc_pp, sc_ref, sc_row, sc_agg, sc_tup, sc_fn, ScL, some_imp, List.forall_mem_map, Nat.le_refl, go_sem, Int.reduceBEq, Int.reduceLE, Int.reduceLT, Int.reduceNeg, Nat.reduceAdd, Nat.reduceEqDiff, Nat.reduceLT, Nat.reduceLeDiff, Nat.reduceMul, Nat.reduceSub, reduceCtorEq, ↓reduceIte]) (by simp only [ScM, zOk, inL, eq_self, used_is, sc_any, sc_c, sc_pp, sc_ref, sc_row, sc_agg, sc_tup, sc_fn, ScL, some_imp, List.forall_mem_map, Nat.le_refl, go_sem, Int.reduceBEq, Int.reduceLE, Int.reduceLT, Int.reduceNeg, Nat.reduceAdd, Nat.reduceEqDiff, Nat.reduceLT, Nat.reduceLeDiff, Nat.reduceMul, Nat.reduceSub, reduceCtorEq, ↓reduceIte]) (by simp only [ScM, zOk, inL, eq_self, used_is, sc_any, sc_c, sc_pp, sc_ref, sc_row, sc_agg, sc_tup, sc_fn, ScL, some_imp, List.forall_mem_map, Nat.le_refl, go_sem, Int.reduceBEq, Int.reduceLE, Int.reduceLT, Int.reduceNeg, Nat.reduceAdd, Nat.reduceEqDiff, Nat.reduceLT, Nat.reduceLeDiff, Nat.reduceMul, Nat.reduceSub, reduceCtorEq, ↓reduceIte]) (by simp only [ScM, zOk, inL, eq_self, used_is, sc_any, sc_c, sc_pp, sc_ref, sc_row, sc_agg, sc_tup, sc_fn, ScL, some_imp, List.forall_mem_map, Nat.le_refl, go_sem, Int.reduceBEq, Int.reduceLE, Int.reduceLT, Int.reduceNeg, Nat.reduceAdd, Nat.reduceEqDiff, Nat.reduceLT, Nat.reduceLeDiff, Nat.reduceMul, Nat.reduceSub, reduceCtorEq, ↓reduceIte]) (by simp) fun hb hbL => ?_
    clear hb hbL
    refine walkGF (hz2) ?_
    refine VC.cond (by rfl) (by trivial) (fun hc => ?_) (fun hc => ?_)
    · refine walkG ?_
      refine ⟨by first | exact .inr rfl | exact .inl rfl, ?_⟩; rw [Tryz.results101]; simp only [resOk, resV, go_sem, Int.reduceBEq, Int.reduceLE, Int.reduceLT, Int.reduceNeg, Nat.reduceAdd, Nat.reduceEqDiff, Nat.reduceLT, Nat.reduceLeDiff, Nat.reduceMul, Nat.reduceSub, reduceCtorEq, ↓reduceIte]
      exact .c _
    · exact absurd hc (by simp)
  | succ d ih =>
    intro z hz hd p hp
    have hz2 : decide (z > 32) = false := by simp; omega
    have hwz : IntKind.i64.wrap (z + 1) = z + 1 := wrap64_id (by omega) (by omega)
    have hI := ih (z + 1) (by omega) (by omega)
    clear ih
    obtain ⟨R, hR⟩ : ∃ R, R = walkM ns (d + 1) p := ⟨_, rfl⟩
    rw [← hR]
    rw [walkM] at hR
    have hle := walkM_le ns d
    by_cases hlt : p < ns.length
    · obtain ⟨n, hn⟩ : ∃ n, ns[p]? = some n := ⟨ns[p], List.getElem?_eq_getElem hlt⟩
      have hnp : (ns.map NT.cells)[p]? = some n.cells := by rw [List.getElem?_map, hn]; rfl
      have hge : decide ((p : Int) ≥ (ns.length : Int)) = false := by simp; omega
      have hwp : IntKind.i64.wrap ((p : Int) + 1) = ((p + 1 : Nat) : Int) := by rw [wrap64_id (by omega) (by omega)]; rfl
      have hns := hs n (List.mem_of_getElem? hn)
      have hK := kids_told n hns
      have hkl := kids_len hns
      rw [hn] at hR
      simp only [] at hR
      obtain ⟨ks, hks⟩ : ∃ ks, ks = kidsN n := ⟨_, rfl⟩
      rw [← hks] at hK hR hkl
      simp only [NT.av_eq] at hK
      clear hks
      have hKi := hK
      clear hK
      unfold wB at hI ⊢
      refine VC.toldM ent_101 [] Tryz.func101 rfl Tryz.ntmps101 (by simp) (by simp only [ScM, zOk, inL, eq_self, used_is, sc_any, sc_c, sc_pp, sc_ref, sc_row, sc_agg, sc_tup, sc_fn, ScL, some_imp, List.forall_mem_map, Nat.le_refl, go_sem, Int.reduceBEq, Int.reduceLE, Int.reduceLT, Int.reduceNeg, Nat.reduceAdd, Nat.reduceEqDiff, Nat.reduceLT, Nat.reduceLeDiff, Nat.reduceMul, Nat.reduceSub, reduceCtorEq, ↓reduceIte]) (by simp only [ScM, zOk, inL, eq_self, used_is, sc_any, sc_c, sc_pp, sc_ref, sc_row, sc_agg, sc_tup, sc_fn, ScL, some_imp, List.forall_mem_map, Nat.le_refl, go_sem, Int.reduceBEq, Int.reduceLE, Int.reduceLT, Int.reduceNeg, Nat.reduceAdd, Nat.reduceEqDiff, Nat.reduceLT, Nat.reduceLeDiff, Nat.reduceMul, Nat.reduceSub, reduceCtorEq, ↓reduceIte]) (by simp only [ScM, zOk, inL, eq_self, used_is, sc_any, sc_c, sc_pp, sc_ref, sc_row, sc_agg, sc_tup, sc_fn, ScL, some_imp, List.forall_mem_map, Nat.le_refl, go_sem, Int.reduceBEq, Int.reduceLE, Int.reduceLT, Int.reduceNeg, Nat.reduceAdd, Nat.reduceEqDiff, Nat.reduceLT, Nat.reduceLeDiff, Nat.reduceMul, Nat.reduceSub, reduceCtorEq, ↓reduceIte]) (by simp only [ScM, zOk, inL, eq_self, used_is, sc_any, sc_c, sc_pp, sc_ref, sc_row, sc_agg, sc_tup, sc_fn, ScL, some_imp, List.forall_mem_map, Nat.le_refl, go_sem, Int.reduceBEq, Int.reduceLE, Int.reduceLT, Int.reduceNeg, Nat.reduceAdd, Nat.reduceEqDiff, Nat.reduceLT, Nat.reduceLeDiff, Nat.reduceMul, Nat.reduceSub, reduceCtorEq, ↓reduceIte]) (by simp) fun hb hbL => ?_
      clear hb hbL
      refine walkGF (And.intro hge hz2) ?_
      refine VC.cond (by rfl) (by trivial) (fun hc => ?_) (fun hc => ?_)
      · exact absurd hc (by simp)
      refine walkGF (And.intro hwp (And.intro hnp (And.intro @len_ncells (And.intro @take_ncells @take_ncellsC)))) ?_
      refine walkCF (@pureL_c) (hKi) ?_
      refine walkG ?_
      clear hKi
      refine VC.loop (ι := {x : Nat × Nat // x.1 ≤ ks.length ∧ x.2 ≤ ns.length ∧ walkK ns (walkM ns d) (ks.drop x.1) x.2 = R})
        (fun q => [(0, .ref 1000000 1 0 0), (1, .c (.v (.int .i64 z))), (6, .fn (.func 101) [.ref 1000000 1 0 0] []), (42, .c (.sl 1 (ks.map iPV))), (43, .c (.v (.int .i64 (ks.length : Int)))), (44, .c (.v (.int .i64 (q.1.1 : Int))))])
        (fun q => [(1000000, ⟨false, 122, 3, [[.c (.sl 10 (ns.map NT.cells)), .c (.v (.int .i64 r)), .c (.v (.int .i64 (q.1.2 : Int)))]]⟩)]) 800 (fun q => ks.length - q.1.1) ⟨(0, p + 1), Nat.zero_le _, hlt, by rw [List.drop_zero]; exact hR.symm⟩ ?_ ?_
      · simp only [Weak, eq_self, used_is, sc_any, sc_c, sc_pp, sc_ref, sc_row, sc_agg, sc_fn, ScL, some_imp, List.forall_mem_map, go_sem, Int.reduceBEq, Int.reduceLE, Int.reduceLT, Int.reduceNeg, Nat.reduceAdd, Nat.reduceEqDiff, Nat.reduceLT, Nat.reduceLeDiff, Nat.reduceMul, Nat.reduceSub, reduceCtorEq, ↓reduceIte]
        try simp
      clear hR
      rintro ⟨⟨i, q⟩, hi, hq, hR⟩
      simp only [] at hi hq hR ⊢
      refine walkG ?_
      refine VC.cond (by rfl) (by trivial) (fun hc2 => ?_) (fun hc2 => ?_)
      · have hil : i < ks.length := by simp at hc2; omega
        obtain ⟨x, hx⟩ : ∃ x, ks[i]? = some x := ⟨ks[i], List.getElem?_eq_getElem hil⟩
        have hxp : (ks.map iPV)[i]? = some (iPV x) := by rw [List.getElem?_map, hx]; rfl
        have hw : IntKind.i64.wrap ((i : Int) + 1) = (i : Int) + 1 := wrap64_id (by omega) (by omega)
        rw [drop_at' hx, walkK] at hR
        by_cases hk : x = (q : Int)
        · rw [if_pos hk] at hR
          have hkq : (x == (q : Int)) = true := by simpa using hk
          have hIq := hI q hq
          have hqb := (hle q hq).2
          obtain ⟨M, hM⟩ : ∃ M, M = walkM ns d q := ⟨_, rfl⟩
          rw [← hM] at hIq hR hqb
          clear hI hM
          refine walkBF (And.intro hxp (And.intro @iPV_eq (And.intro hkq hwz))) ?_
          ((refine AO.step fun K hK => ?_; simp only [go_sem, Int.reduceBEq, Int.reduceLE, Int.reduceLT, Int.reduceNeg, Nat.reduceAdd, Nat.reduceEqDiff, Nat.reduceLT, Nat.reduceLeDiff, Nat.reduceMul, Nat.reduceSub, reduceCtorEq, ↓reduceIte]; (first | refine gsel_go ?_ | skip)); refine .inr (.inr (.inl ⟨?vy1, [1000000], ?va1, ?vl1, ?vm1, ?cond1, ?cont1⟩)); (case cond1 => ((repeat' apply And.intro) <;> (try ((with_reducible show ToldM _ _ _ _ _ _); exact hIq))); (all_goals first | trivial | (simp only [go_sem, Int.reduceBEq, Int.reduceLE, Int.reduceLT, Int.reduceNeg, Nat.reduceAdd, Nat.reduceEqDiff, Nat.reduceLT, Nat.reduceLeDiff, Nat.reduceMul, Nat.reduceSub, reduceCtorEq, ↓reduceIte]; done) | (simp; done) | rfl)); (first | refine hK _ _ _ ?_ | (simp only [go_sem, Int.reduceBEq, Int.reduceLE, Int.reduceLT, Int.reduceNeg, Nat.reduceAdd, Nat.reduceEqDiff, Nat.reduceLT, Nat.reduceLeDiff, Nat.reduceMul, Nat.reduceSub, reduceCtorEq, ↓reduceIte]; first | refine hK _ _ _ ?_ | refine ⟨rfl, hK _ _ _ ?_⟩)); clear hK K)
          refine walkG ?_
          refine VC.cond (by rfl) (by trivial) (fun hc3 => ?_) (fun hc3 => ?_)
          · have hf : R = (false, M.2) := by
              rw [if_neg (by simpa using hc3)] at hR
              exact hR.symm
            subst hf
            refine walkG ?_
            refine ⟨by first | exact .inr rfl | exact .inl rfl, ?_⟩; rw [Tryz.results101]; simp only [resOk, resV, go_sem, Int.reduceBEq, Int.reduceLE, Int.reduceLT, Int.reduceNeg, Nat.reduceAdd, Nat.reduceEqDiff, Nat.reduceLT, Nat.reduceLeDiff, Nat.reduceMul, Nat.reduceSub, reduceCtorEq, ↓reduceIte]
            exact .c _
          · rw [if_pos (by simpa using hc3)] at hR
            refine walkGF (hw) ?_
            refine .next ⟨(i + 1, M.2), by simp only []; omega, hqb, hR⟩ ?_ (by simp only []; omega)
            simp only [Weak, eq_self, used_is, sc_any, sc_c, sc_pp, sc_ref, sc_row, sc_agg, sc_fn, ScL, some_imp, List.forall_mem_map, go_sem, Int.reduceBEq, Int.reduceLE, Int.reduceLT, Int.reduceNeg, Nat.reduceAdd, Nat.reduceEqDiff, Nat.reduceLT, Nat.reduceLeDiff, Nat.reduceMul, Nat.reduceSub, reduceCtorEq, ↓reduceIte]
            try exact cI (by omega)
        · rw [if_neg hk] at hR
          have hkq : (x == (q : Int)) = false := by simpa using hk
          by_cases hx0 : x < 0
          · have hf : R = (false, q) := by
              rw [if_pos (.inl hx0)] at hR
              exact hR.symm
            subst hf
            have e0 : decide (x < 0) = true := by simpa using hx0
            refine walkBF (And.intro hxp (And.intro @iPV_eq (And.intro hkq e0))) ?_
            refine ⟨by first | exact .inr rfl | exact .inl rfl, ?_⟩; rw [Tryz.results101]; simp only [resOk, resV, go_sem, Int.reduceBEq, Int.reduceLE, Int.reduceLT, Int.reduceNeg, Nat.reduceAdd, Nat.reduceEqDiff, Nat.reduceLT, Nat.reduceLeDiff, Nat.reduceMul, Nat.reduceSub, reduceCtorEq, ↓reduceIte]
            exact .c _
          have e0 : decide (x < 0) = false := by simpa using hx0
          by_cases hxq : x > (q : Int)
          · have hf : R = (false, q) := by
              rw [if_pos (.inr (.inl hxq))] at hR
              exact hR.symm
            subst hf
            have e1 : decide (x > (q : Int)) = true := by simpa using hxq
            refine walkBF (And.intro hxp (And.intro @iPV_eq (And.intro hkq (And.intro e0 e1)))) ?_
            refine ⟨by first | exact .inr rfl | exact .inl rfl, ?_⟩; rw [Tryz.results101]; simp only [resOk, resV, go_sem, Int.reduceBEq, Int.reduceLE, Int.reduceLT, Int.reduceNeg, Nat.reduceAdd, Nat.reduceEqDiff, Nat.reduceLT, Nat.reduceLeDiff, Nat.reduceMul, Nat.reduceSub, reduceCtorEq, ↓reduceIte]
            exact .c _
          have e1 : decide (x > (q : Int)) = false := by simpa using hxq
          obtain ⟨j, rfl⟩ : ∃ j : Nat, x = (j : Int) := ⟨x.toNat, by omega⟩
          have hj : j < ns.length := by omega
          obtain ⟨m, hm⟩ : ∃ m, ns[j]? = some m := ⟨ns[j], List.getElem?_eq_getElem hj⟩
          have hmp : (ns.map NT.cells)[j]? = some m.cells := by rw [List.getElem?_map, hm]; rfl
          have hka : kindAt ns ((j : Int)).toNat = m.kind := by rw [Int.toNat_natCast, kindAt, hm]
          rw [hka] at hR
          have hN := named_told m.kind
          refine walkBF (And.intro hxp (And.intro @iPV_eq (And.intro hkq (And.intro e0 (And.intro e1 (And.intro hmp @ncells_mk)))))) ?_
          refine walkC (hN) ?_
          refine walkG ?_
          refine VC.cond (by rfl) (by trivial) (fun hc3 => ?_) (fun hc3 => ?_)
          · have hf : R = (false, q) := by
              rw [if_pos (.inr (.inr (by simpa using hc3)))] at hR
              exact hR.symm
            subst hf
            refine walkG ?_
            refine ⟨by first | exact .inr rfl | exact .inl rfl, ?_⟩; rw [Tryz.results101]; simp only [resOk, resV, go_sem, Int.reduceBEq, Int.reduceLE, Int.reduceLT, Int.reduceNeg, Nat.reduceAdd, Nat.reduceEqDiff, Nat.reduceLT, Nat.reduceLeDiff, Nat.reduceMul, Nat.reduceSub, reduceCtorEq, ↓reduceIte]
            exact .c _
          · have hnn : namedK m.kind = true := by simpa using hc3
            have hno : ¬ ((j : Int) < 0 ∨ (j : Int) > (q : Int) ∨ namedK m.kind = false) := by
              rintro (h | h | h)
              · exact hx0 h
              · exact hxq h
              · rw [hnn] at h
                exact absurd h (by simp)
            rw [if_neg hno] at hR
            refine walkGF (hw) ?_
            refine .next ⟨(i + 1, q), by simp only []; omega, hq, hR⟩ ?_ (by simp only []; omega)
            simp only [Weak, eq_self, used_is, sc_any, sc_c, sc_pp, sc_ref, sc_row, sc_agg, sc_fn, ScL, some_imp, List.forall_mem_map, go_sem, Int.reduceBEq, Int.reduceLE, Int.reduceLT, Int.reduceNeg, Nat.reduceAdd, Nat.reduceEqDiff, Nat.reduceLT, Nat.reduceLeDiff, Nat.reduceMul, Nat.reduceSub, reduceCtorEq, ↓reduceIte]
            try exact cI (by omega)
      · have hie : i = ks.length := by simp at hc2; omega
        have hf : R = (true, q) := by
          rw [hie, List.drop_length, walkK] at hR
          exact hR.symm
        subst hf
        refine walkG ?_
        refine ⟨by first | exact .inr rfl | exact .inl rfl, ?_⟩; rw [Tryz.results101]; simp only [resOk, resV, go_sem, Int.reduceBEq, Int.reduceLE, Int.reduceLT, Int.reduceNeg, Nat.reduceAdd, Nat.reduceEqDiff, Nat.reduceLT, Nat.reduceLeDiff, Nat.reduceMul, Nat.reduceSub, reduceCtorEq, ↓reduceIte]
        exact .c _
    · have hR : R = (false, p) := by
        rw [hR, List.getElem?_eq_none (by omega)]
      subst hR
      have hge : decide ((p : Int) ≥ (ns.length : Int)) = true := by simp; omega
      unfold wB
      refine VC.toldM ent_101 [] Tryz.func101 rfl Tryz.ntmps101 (by simp) (by simp only [ScM, zOk, inL, eq_self, used_is, sc_any, sc_c, sc_pp, sc_ref, sc_row, sc_agg, sc_tup, sc_fn, ScL, some_imp, List.forall_mem_map, Nat.le_refl, go_sem, Int.reduceBEq, Int.reduceLE, Int.reduceLT, Int.reduceNeg, Nat.reduceAdd, Nat.reduceEqDiff, Nat.reduceLT, Nat.reduceLeDiff, Nat.reduceMul, Nat.reduceSub, reduceCtorEq, ↓reduceIte]) (by simp only [ScM, zOk, inL, eq_self, used_is, sc_any, sc_c, sc_pp, sc_ref, sc_row, sc_agg, sc_tup, sc_fn, ScL, some_imp, List.forall_mem_map, Nat.le_refl, go_sem, Int.reduceBEq, Int.reduceLE, Int.reduceLT, Int.reduceNeg, Nat.reduceAdd, Nat.reduceEqDiff, Nat.reduceLT, Nat.reduceLeDiff, Nat.reduceMul, Nat.reduceSub, reduceCtorEq, ↓reduceIte]) (by simp only [ScM, zOk, inL, eq_self, used_is, sc_any, sc_c, sc_pp, sc_ref, sc_row, sc_agg, sc_tup, sc_fn, ScL, some_imp, List.forall_mem_map, Nat.le_refl, go_sem, Int.reduceBEq, Int.reduceLE, Int.reduceLT, Int.reduceNeg, Nat.reduceAdd, Nat.reduceEqDiff, Nat.reduceLT, Nat.reduceLeDiff, Nat.reduceMul, Nat.reduceSub, reduceCtorEq, ↓reduceIte]) (by simp only [ScM, zOk, inL, eq_self, used_is, sc_any, sc_c, sc_pp, sc_ref, sc_row, sc_agg, sc_tup, sc_fn, ScL, some_imp, List.forall_mem_map, Nat.le_refl, go_sem, Int.reduceBEq, Int.reduceLE, Int.reduceLT, Int.reduceNeg, Nat.reduceAdd, Nat.reduceEqDiff, Nat.reduceLT, Nat.reduceLeDiff, Nat.reduceMul, Nat.reduceSub, reduceCtorEq, ↓reduceIte]) (by simp) fun hb hbL => ?_
      clear hb hbL
      refine walkGF (hge) ?_
      refine VC.cond (by rfl) (by trivial) (fun hc => ?_) (fun hc => ?_)
      · refine walkG ?_
        refine ⟨by first | exact .inr rfl | exact .inl rfl, ?_⟩; rw [Tryz.results101]; simp only [resOk, resV, go_sem, Int.reduceBEq, Int.reduceLE, Int.reduceLT, Int.reduceNeg, Nat.reduceAdd, Nat.reduceEqDiff, Nat.reduceLT, Nat.reduceLeDiff, Nat.reduceMul, Nat.reduceSub, reduceCtorEq, ↓reduceIte]
        exact .c _
      · exact absurd hc (by simp)
set_option maxRecDepth 100000 in
set_option maxHeartbeats 800000 in
theorem ordered_told (s : ST) (hl : s.nodes.length ≤ 1000000) (hs : ∀ n ∈ s.nodes, n.sm 1000000) : Told Tryz.prog 61 [s.av] (.c (.v (.bool (orderedM s)))) := by
  have hW := walk_told s.nodes s.root hl hs 33 0 (by omega) (by omega) 0 (Nat.zero_le _)
  unfold wB at hW
  obtain ⟨V, hV⟩ : ∃ V, V = orderedM s := ⟨_, rfl⟩
  rw [← hV]
  unfold orderedM at hV
  obtain ⟨M, hM⟩ : ∃ M, M = walkM s.nodes 33 0 := ⟨_, rfl⟩
  rw [← hM] at hV hW
  clear hM
  have hv : V = (decide ((s.nodes.length : Int) > 0) && decide ((s.nodes.length : Int) ≤ 200) && (s.root == 0) && M.1 && ((M.2 : Int) == (s.nodes.length : Int))) := by
    have e1 : decide ((s.nodes.length : Int) > 0) = decide (0 < s.nodes.length) := by simp
    have e2 : decide ((s.nodes.length : Int) ≤ 200) = decide (s.nodes.length ≤ 200) := by simp; omega
    have e3 : (s.root == 0) = decide (s.root = 0) := by by_cases h : s.root = 0 <;> simp [h]
    have e4 : ((M.2 : Int) == (s.nodes.length : Int)) = decide (M.2 = s.nodes.length) := by
      by_cases h : M.2 = s.nodes.length
      · simp [h]
      · have : ¬ ((M.2 : Int) = (s.nodes.length : Int)) := by omega
        simp [h, this]
    rw [hV, e1, e2, e3, e4]
    simp only [Bool.and_assoc]
  clear hV
  replace hv := Lib.hid hv
  rw [ST.av_eq, scells_mk]
  rw [show ((0 : Nat) : Int) = 0 from rfl] at hW
  by_cases c1 : 0 < s.nodes.length
  · have e1 : decide ((s.nodes.length : Int) > 0) = true := by simpa using c1
    by_cases c2 : s.nodes.length ≤ 200
    · have e2 : decide ((s.nodes.length : Int) ≤ 200) = true := by simp; omega
      by_cases c3 : s.root = 0
      · have e3 : (s.root == 0) = true := by simpa using c3
        have hv2 : V = (M.1 && ((M.2 : Int) == (s.nodes.length : Int))) := by rw [hv.out, e1, e2, e3]; simp
        clear hv
        replace hv2 := Lib.hid hv2
        refine VC.told ent_61 Tryz.func61 rfl Tryz.ntmps61 (by simp) (by first | rfl | simp [AV.pureB, AV.pureL, pureL_c, pures]) (by first | rfl | simp [AV.pureB, AV.pureL, pureL_c, pures]) fun hb => ?_
        clear hb
        refine walkGF (And.intro e1 (And.intro e2 e3)) ?_
        ((refine AO.step fun K hK => ?_; simp only [go_sem, Int.reduceBEq, Int.reduceLE, Int.reduceLT, Int.reduceNeg, Nat.reduceAdd, Nat.reduceEqDiff, Nat.reduceLT, Nat.reduceLeDiff, Nat.reduceMul, Nat.reduceSub, reduceCtorEq, ↓reduceIte]; (first | refine gsel_go ?_ | skip)); refine .inr (.inr (.inl ⟨?vy2, [32], ?va2, ?vl2, ?vm2, ?cond2, ?cont2⟩)); (case cond2 => ((repeat' apply And.intro) <;> (try ((with_reducible show ToldM _ _ _ _ _ _); exact hW))); (all_goals first | trivial | (simp only [go_sem, Int.reduceBEq, Int.reduceLE, Int.reduceLT, Int.reduceNeg, Nat.reduceAdd, Nat.reduceEqDiff, Nat.reduceLT, Nat.reduceLeDiff, Nat.reduceMul, Nat.reduceSub, reduceCtorEq, ↓reduceIte]; done) | (simp; done) | rfl)); (first | refine hK _ _ _ ?_ | (simp only [go_sem, Int.reduceBEq, Int.reduceLE, Int.reduceLT, Int.reduceNeg, Nat.reduceAdd, Nat.reduceEqDiff, Nat.reduceLT, Nat.reduceLeDiff, Nat.reduceMul, Nat.reduceSub, reduceCtorEq, ↓reduceIte]; first | refine hK _ _ _ ?_ | refine ⟨rfl, hK _ _ _ ?_⟩)); clear hK K)
        refine walkG ?_
        refine ⟨by first | exact .inr rfl | exact .inl rfl, ?_⟩; rw [Tryz.results61]; simp only [resOk, resV, go_sem, Int.reduceBEq, Int.reduceLE, Int.reduceLT, Int.reduceNeg, Nat.reduceAdd, Nat.reduceEqDiff, Nat.reduceLT, Nat.reduceLeDiff, Nat.reduceMul, Nat.reduceSub, reduceCtorEq, ↓reduceIte]
        rw [hv2.out]
        exact .c _
      · have e3 : (s.root == 0) = false := by simpa using c3
        have hv2 : V = false := by rw [hv.out, e3]; simp
        clear hv
        subst hv2
        refine VC.told ent_61 Tryz.func61 rfl Tryz.ntmps61 (by simp) (by first | rfl | simp [AV.pureB, AV.pureL, pureL_c, pures]) (by first | rfl | simp [AV.pureB, AV.pureL, pureL_c, pures]) fun hb => ?_
        clear hb
        refine walkGF (And.intro e1 (And.intro e2 e3)) ?_
        refine ⟨by first | exact .inr rfl | exact .inl rfl, ?_⟩; rw [Tryz.results61]; simp only [resOk, resV, go_sem, Int.reduceBEq, Int.reduceLE, Int.reduceLT, Int.reduceNeg, Nat.reduceAdd, Nat.reduceEqDiff, Nat.reduceLT, Nat.reduceLeDiff, Nat.reduceMul, Nat.reduceSub, reduceCtorEq, ↓reduceIte]
        exact .c _
    · have e2 : decide ((s.nodes.length : Int) ≤ 200) = false := by simp; omega
      have hv2 : V = false := by rw [hv.out, e2]; simp
      clear hv
      subst hv2
      refine VC.told ent_61 Tryz.func61 rfl Tryz.ntmps61 (by simp) (by first | rfl | simp [AV.pureB, AV.pureL, pureL_c, pures]) (by first | rfl | simp [AV.pureB, AV.pureL, pureL_c, pures]) fun hb => ?_
      clear hb
      refine walkGF (And.intro e1 e2) ?_
      refine ⟨by first | exact .inr rfl | exact .inl rfl, ?_⟩; rw [Tryz.results61]; simp only [resOk, resV, go_sem, Int.reduceBEq, Int.reduceLE, Int.reduceLT, Int.reduceNeg, Nat.reduceAdd, Nat.reduceEqDiff, Nat.reduceLT, Nat.reduceLeDiff, Nat.reduceMul, Nat.reduceSub, reduceCtorEq, ↓reduceIte]
      exact .c _
  · have e1 : decide ((s.nodes.length : Int) > 0) = false := by
      rw [show s.nodes.length = 0 by omega]
      rfl
    have hv2 : V = false := by rw [hv.out, e1]; simp
    clear hv
    subst hv2
    refine VC.told ent_61 Tryz.func61 rfl Tryz.ntmps61 (by simp) (by first | rfl | simp [AV.pureB, AV.pureL, pureL_c, pures]) (by first | rfl | simp [AV.pureB, AV.pureL, pureL_c, pures]) fun hb => ?_
    clear hb
    refine walkGF (e1) ?_
    refine ⟨by first | exact .inr rfl | exact .inl rfl, ?_⟩; rw [Tryz.results61]; simp only [resOk, resV, go_sem, Int.reduceBEq, Int.reduceLE, Int.reduceLT, Int.reduceNeg, Nat.reduceAdd, Nat.reduceEqDiff, Nat.reduceLT, Nat.reduceLeDiff, Nat.reduceMul, Nat.reduceSub, reduceCtorEq, ↓reduceIte]
    exact .c _

theorem rnamed10_told (k : Int) : Told Tryz.prog 98 [.c (.v (.int .i64 k))] (.c (.v (.bool (namedK k)))) := by
  obtain ⟨V, hV⟩ : ∃ V, V = namedK k := ⟨_, rfl⟩
  rw [← hV]
  unfold namedK at hV
  replace hV := Lib.hid hV
  refine VC.told ent_98 Tryz.func98 rfl Tryz.ntmps98 (by simp) (by first | rfl | simp [AV.pureB, AV.pureL, pureL_c, pures]) (by first | rfl | simp [AV.pureB, AV.pureL, pureL_c, pures]) fun hb => ?_
  clear hb
  refine walkG ?_
  refine ⟨by first | exact .inr rfl | exact .inl rfl, ?_⟩; rw [Tryz.results98]; simp only [resOk, resV, go_sem, Int.reduceBEq, Int.reduceLE, Int.reduceLT, Int.reduceNeg, Nat.reduceAdd, Nat.reduceEqDiff, Nat.reduceLT, Nat.reduceLeDiff, Nat.reduceMul, Nat.reduceSub, reduceCtorEq, ↓reduceIte]
  rw [hV.out]
  exact .c _
set_option maxRecDepth 100000 in
set_option maxHeartbeats 1600000 in
theorem rkids_told (n : NT) (hn : n.sm 1000000) : Told Tryz.prog 155 [n.av] (.c (.sl 1 ((kidsN n).map iPV))) := by
  obtain ⟨L, hL⟩ : ∃ L, L = kidsN n := ⟨_, rfl⟩
  rw [← hL]
  unfold kidsN at hL
  have hfl := hn.2.2.2.2.2.1
  have hbl := hn.2.2.2.2.1
  rw [NT.av_eq, ncells_mk]
  refine VC.told ent_155 Tryz.func155 rfl Tryz.ntmps155 (by simp) (by first | rfl | simp [AV.pureB, AV.pureL, pureL_c, pures]) (by first | rfl | simp [AV.pureB, AV.pureL, pureL_c, pures]) fun hb => ?_
  clear hb
  by_cases h9 : n.kind = 9
  · rw [if_pos h9] at hL
    subst hL
    rw [h9]
    refine walkB ?_
    refine VC.nil 3 3 1 (by rfl) (by trivial) (by rfl) ?_
    refine VC.loop (ι := {i : Nat // i ≤ n.fields.length}) (fun q => [(1, .ref 0 1 0 0), (3, .row 56 q.1), (4, .c (.v (.int .i64 (q.1 : Int))))])
      (fun q => [(0, ⟨false, 33, 10, [({n with kind := 9} : NT).cells.map .c]⟩), (56, ⟨true, 3, 1, rA iPV ((n.fields.map (·.type)).take q.1)⟩)]) 800 (fun q => n.fields.length - q.1) ⟨0, Nat.zero_le _⟩ ?_ ?_
    · simp only [rA_len, rA_sc, rA_nil, ncells_mk, Weak, eq_self, used_is, sc_any, sc_c, sc_pp, sc_ref, sc_row, sc_agg, sc_fn, ScL, some_imp, List.forall_mem_map, go_sem, Int.reduceBEq, Int.reduceLE, Int.reduceLT, Int.reduceNeg, Nat.reduceAdd, Nat.reduceEqDiff, Nat.reduceLT, Nat.reduceLeDiff, Nat.reduceMul, Nat.reduceSub, reduceCtorEq, ↓reduceIte]
      try simp
    rintro ⟨i, hi⟩
    simp only []
    refine walkGF (@ncells_mk) ?_
    refine VC.cond (by rfl) (by trivial) (fun hc => ?_) (fun hc => ?_)
    · have hlt : i < n.fields.length := by simp at hc; omega
      obtain ⟨f, hx⟩ : ∃ f, n.fields[i]? = some f := ⟨n.fields[i], List.getElem?_eq_getElem hlt⟩
      have hw : IntKind.i64.wrap ((i : Int) + 1) = (i : Int) + 1 := wrap64_id (by omega) (by omega)
      have hxp : (n.fields.map FT.cells)[i]? = some f.cells := by rw [List.getElem?_map, hx]; rfl
      have hl : (rA iPV ((n.fields.map (·.type)).take i)).length = i := by rw [rA_len]; simp; omega
      have hr : rA iPV ((n.fields.map (·.type)).take i) ++ [[.c (.v (.int .i64 f.type))]] = rA iPV ((n.fields.map (·.type)).take (i + 1)) := by
        rw [List.take_add_one, List.getElem?_map, hx]
        exact rA_one iPV _ f.type
      have hl2 : (rA iPV ((n.fields.map (·.type)).take (i + 1))).length = i + 1 := by rw [rA_len]; simp; omega
      refine walkGF (And.intro @ncells_mk (And.intro hxp (And.intro @fcells_mk (And.intro @len_cells (And.intro @take_cells (And.intro @take_cellsC (And.intro hl (And.intro hr hw)))))))) ?_
      refine .next ⟨i + 1, by omega⟩ ?_ (by simp only []; omega)
      simp only [hl2, rA_sc, ncells_mk, Weak, eq_self, used_is, sc_any, sc_c, sc_pp, sc_ref, sc_row, sc_agg, sc_fn, ScL, some_imp, List.forall_mem_map, go_sem, Int.reduceBEq, Int.reduceLE, Int.reduceLT, Int.reduceNeg, Nat.reduceAdd, Nat.reduceEqDiff, Nat.reduceLT, Nat.reduceLeDiff, Nat.reduceMul, Nat.reduceSub, reduceCtorEq, ↓reduceIte]
      exact ⟨cI (by omega), Nat.le_refl _⟩
    · have hie : i = n.fields.length := by simp at hc; omega
      have htk : (n.fields.map (·.type)).take i = n.fields.map (·.type) := List.take_of_length_le (by simp; omega)
      rw [htk]
      refine walkBF (And.intro hie @ncells_mk) ?_
      refine ⟨by first | exact .inr rfl | exact .inl rfl, ?_⟩; rw [Tryz.results155]; simp only [resOk, resV, go_sem, Int.reduceBEq, Int.reduceLE, Int.reduceLT, Int.reduceNeg, Nat.reduceAdd, Nat.reduceEqDiff, Nat.reduceLT, Nat.reduceLeDiff, Nat.reduceMul, Nat.reduceSub, reduceCtorEq, ↓reduceIte]
      apply frz_rA (f := iPV) (l := n.fields.map (·.type)) (T := 3)
      · rfl
      · simp [hie]
      · rfl
      · simp [iPV]
  by_cases h11 : n.kind = 11
  · rw [if_neg h9, if_pos (.inl h11)] at hL
    subst hL
    rw [h11]
    refine walkB ?_
    refine ⟨by first | exact .inr rfl | exact .inl rfl, ?_⟩; rw [Tryz.results155]; simp only [resOk, resV, go_sem, Int.reduceBEq, Int.reduceLE, Int.reduceLT, Int.reduceNeg, Nat.reduceAdd, Nat.reduceEqDiff, Nat.reduceLT, Nat.reduceLeDiff, Nat.reduceMul, Nat.reduceSub, reduceCtorEq, ↓reduceIte]
    exact frz_rA (f := iPV) (l := [n.items]) rfl rfl rfl (by simp [iPV])
  by_cases h12 : n.kind = 12
  · rw [if_neg h9, if_pos (.inr h12)] at hL
    subst hL
    rw [h12]
    refine walkB ?_
    refine ⟨by first | exact .inr rfl | exact .inl rfl, ?_⟩; rw [Tryz.results155]; simp only [resOk, resV, go_sem, Int.reduceBEq, Int.reduceLE, Int.reduceLT, Int.reduceNeg, Nat.reduceAdd, Nat.reduceEqDiff, Nat.reduceLT, Nat.reduceLeDiff, Nat.reduceMul, Nat.reduceSub, reduceCtorEq, ↓reduceIte]
    exact frz_rA (f := iPV) (l := [n.items]) rfl rfl rfl (by simp [iPV])
  by_cases h13 : n.kind = 13
  · rw [if_neg h9, if_neg (by simp [h11, h12]), if_pos h13] at hL
    subst hL
    rw [h13]
    refine walkB ?_
    refine ⟨by first | exact .inr rfl | exact .inl rfl, ?_⟩; rw [Tryz.results155]; simp only [resOk, resV, go_sem, Int.reduceBEq, Int.reduceLE, Int.reduceLT, Int.reduceNeg, Nat.reduceAdd, Nat.reduceEqDiff, Nat.reduceLT, Nat.reduceLeDiff, Nat.reduceMul, Nat.reduceSub, reduceCtorEq, ↓reduceIte]
    refine frz_rA (f := iPV) (l := n.branches) (T := 3) ?_ ?_ rfl (by simp [iPV])
    · simp [upd_at, rA_pv]
    · simp
  · rw [if_neg h9, if_neg (by simp [h11, h12]), if_neg h13] at hL
    subst hL
    have e9 : (n.kind == 9) = false := by simpa using h9
    have e11 : (n.kind == 11) = false := by simpa using h11
    have e12 : (n.kind == 12) = false := by simpa using h12
    have e13 : (n.kind == 13) = false := by simpa using h13
    refine walkBF (And.intro e9 (And.intro e11 (And.intro e12 e13))) ?_
    refine ⟨by first | exact .inr rfl | exact .inl rfl, ?_⟩; rw [Tryz.results155]; simp only [resOk, resV, go_sem, Int.reduceBEq, Int.reduceLE, Int.reduceLT, Int.reduceNeg, Nat.reduceAdd, Nat.reduceEqDiff, Nat.reduceLT, Nat.reduceLeDiff, Nat.reduceMul, Nat.reduceSub, reduceCtorEq, ↓reduceIte]
    exact .nil _
set_option maxRecDepth 100000 in
set_option maxHeartbeats 1600000 in
theorem met_told (s : ST) (hl : s.nodes.length ≤ 1000000) (hs : ∀ n ∈ s.nodes, n.sm 1000000) : ∀ (d : Nat) (z : Int), z = 33 - (d : Int) → d ≤ 33 → ∀ p : Nat, p ≤ s.nodes.length →
    Told Tryz.prog 135 [s.av, .c (.v (.int .i64 (p : Int))), .c (.v (.int .i64 z))] (.c (.v (.int .i64 (metM s.nodes d p)))) := by
  intro d
  induction d with
  | zero =>
    intro z hz hd p hp
    have hz2 : decide (z > 32) = true := by simp; omega
    have hm : metM s.nodes 0 p = -1 := by simp [metM, walkM]
    rw [hm, ST.av_eq, scells_mk]
    refine VC.told ent_135 Tryz.func135 rfl Tryz.ntmps135 (by simp) (by first | rfl | simp [AV.pureB, AV.pureL, pureL_c, pures]) (by first | rfl | simp [AV.pureB, AV.pureL, pureL_c, pures]) fun hb => ?_
    clear hb
    refine walkGF (hz2) ?_
    refine VC.cond (by rfl) (by trivial) (fun hc => ?_) (fun hc => ?_)
    · refine walkG ?_
      refine ⟨by first | exact .inr rfl | exact .inl rfl, ?_⟩; rw [Tryz.results135]; simp only [resOk, resV, go_sem, Int.reduceBEq, Int.reduceLE, Int.reduceLT, Int.reduceNeg, Nat.reduceAdd, Nat.reduceEqDiff, Nat.reduceLT, Nat.reduceLeDiff, Nat.reduceMul, Nat.reduceSub, reduceCtorEq, ↓reduceIte]
      exact .c _
    · exact absurd hc (by simp)
  | succ d ih =>
    intro z hz hd p hp
    have hz2 : decide (z > 32) = false := by simp; omega
    have hwz : IntKind.i64.wrap (z + 1) = z + 1 := wrap64_id (by omega) (by omega)
    have hI := ih (z + 1) (by omega) (by omega)
    clear ih
    obtain ⟨V, hV⟩ : ∃ V, V = metM s.nodes (d + 1) p := ⟨_, rfl⟩
    rw [← hV]
    unfold metM at hV
    obtain ⟨R, hR⟩ : ∃ R, R = walkM s.nodes (d + 1) p := ⟨_, rfl⟩
    rw [← hR] at hV
    rw [walkM] at hR
    have hle := walkM_le s.nodes d
    rw [ST.av_eq, scells_mk]
    simp only [ST.av_eq, scells_mk, List.map_cons, List.map_nil] at hI
    by_cases hlt : p < s.nodes.length
    · obtain ⟨n, hn⟩ : ∃ n, s.nodes[p]? = some n := ⟨s.nodes[p], List.getElem?_eq_getElem hlt⟩
      have hnp : (s.nodes.map NT.cells)[p]? = some n.cells := by rw [List.getElem?_map, hn]; rfl
      have hge : decide ((p : Int) ≥ (s.nodes.length : Int)) = false := by simp; omega
      have hwp : IntKind.i64.wrap ((p : Int) + 1) = ((p + 1 : Nat) : Int) := by rw [wrap64_id (by omega) (by omega)]; rfl
      have hns := hs n (List.mem_of_getElem? hn)
      have hKi := rkids_told n hns
      have hkl := kids_len hns
      rw [hn] at hR
      simp only [] at hR
      obtain ⟨ks, hks⟩ : ∃ ks, ks = kidsN n := ⟨_, rfl⟩
      rw [← hks] at hKi hR hkl
      simp only [NT.av_eq] at hKi
      clear hks
      refine VC.told ent_135 Tryz.func135 rfl Tryz.ntmps135 (by simp) (by first | rfl | simp [AV.pureB, AV.pureL, pureL_c, pures]) (by first | rfl | simp [AV.pureB, AV.pureL, pureL_c, pures]) fun hb => ?_
      clear hb
      refine walkGF (And.intro hge hz2) ?_
      refine VC.cond (by rfl) (by trivial) (fun hc => ?_) (fun hc => ?_)
      · exact absurd hc (by simp)
      refine walkGF (And.intro hwp (And.intro hnp (And.intro @len_ncells (And.intro @take_ncells @take_ncellsC)))) ?_
      refine walkCF (@pureL_c) (hKi) ?_
      refine walkG ?_
      clear hKi
      refine VC.loop (ι := {x : Nat × Nat // x.1 ≤ ks.length ∧ x.2 ≤ s.nodes.length ∧ walkK s.nodes (walkM s.nodes d) (ks.drop x.1) x.2 = R})
        (fun q => [(2, .c (.v (.int .i64 z))), (3, .ref 0 1 0 0), (7, .c (.v (.int .i64 (q.1.2 : Int)))), (8, .c (.sl 1 (ks.map iPV))), (9, .c (.v (.int .i64 (q.1.1 : Int))))])
        (fun q => [(0, ⟨false, 24, 2, [[.c (.sl 10 (s.nodes.map NT.cells)), .c (.v (.int .i64 s.root))]]⟩)]) 800 (fun q => ks.length - q.1.1) ⟨(0, p + 1), Nat.zero_le _, hlt, by rw [List.drop_zero]; exact hR.symm⟩ ?_ ?_
      · simp only [Weak, eq_self, used_is, sc_any, sc_c, sc_pp, sc_ref, sc_row, sc_agg, sc_fn, ScL, some_imp, List.forall_mem_map, go_sem, Int.reduceBEq, Int.reduceLE, Int.reduceLT, Int.reduceNeg, Nat.reduceAdd, Nat.reduceEqDiff, Nat.reduceLT, Nat.reduceLeDiff, Nat.reduceMul, Nat.reduceSub, reduceCtorEq, ↓reduceIte]
        try simp
      clear hR
      rintro ⟨⟨i, q⟩, hi, hq, hR⟩
      simp only [] at hi hq hR ⊢
      refine walkG ?_
      refine VC.cond (by rfl) (by trivial) (fun hc2 => ?_) (fun hc2 => ?_)
      · have hil : i < ks.length := by simp at hc2; omega
        obtain ⟨x, hx⟩ : ∃ x, ks[i]? = some x := ⟨ks[i], List.getElem?_eq_getElem hil⟩
        have hxp : (ks.map iPV)[i]? = some (iPV x) := by rw [List.getElem?_map, hx]; rfl
        have hw : IntKind.i64.wrap ((i : Int) + 1) = (i : Int) + 1 := wrap64_id (by omega) (by omega)
        rw [drop_at' hx, walkK] at hR
        by_cases hx0 : x < 0
        · have hf : R = (false, q) := by
            rw [if_neg (by omega), if_pos (.inl hx0)] at hR
            exact hR.symm
          subst hf
          obtain rfl : V = -1 := hV
          have e0 : decide (x < 0) = true := by simpa using hx0
          refine walkBF (And.intro hxp (And.intro @iPV_eq e0)) ?_
          refine ⟨by first | exact .inr rfl | exact .inl rfl, ?_⟩; rw [Tryz.results135]; simp only [resOk, resV, go_sem, Int.reduceBEq, Int.reduceLE, Int.reduceLT, Int.reduceNeg, Nat.reduceAdd, Nat.reduceEqDiff, Nat.reduceLT, Nat.reduceLeDiff, Nat.reduceMul, Nat.reduceSub, reduceCtorEq, ↓reduceIte]
          exact .c _
        have e0 : decide (x < 0) = false := by simpa using hx0
        by_cases hxq : x > (q : Int)
        · have hf : R = (false, q) := by
            rw [if_neg (by omega), if_pos (.inr (.inl hxq))] at hR
            exact hR.symm
          subst hf
          obtain rfl : V = -1 := hV
          have e1 : decide (x > (q : Int)) = true := by simpa using hxq
          refine walkBF (And.intro hxp (And.intro @iPV_eq (And.intro e0 e1))) ?_
          refine ⟨by first | exact .inr rfl | exact .inl rfl, ?_⟩; rw [Tryz.results135]; simp only [resOk, resV, go_sem, Int.reduceBEq, Int.reduceLE, Int.reduceLT, Int.reduceNeg, Nat.reduceAdd, Nat.reduceEqDiff, Nat.reduceLT, Nat.reduceLeDiff, Nat.reduceMul, Nat.reduceSub, reduceCtorEq, ↓reduceIte]
          exact .c _
        have e1 : decide (x > (q : Int)) = false := by simpa using hxq
        by_cases hk : x = (q : Int)
        · rw [if_pos hk] at hR
          subst hk
          have e2 : decide ((q : Int) < (q : Int)) = false := by simp
          have hkq : ((q : Int) == (q : Int)) = true := by simp
          have hIq := hI q hq
          have hqb := (hle q hq).2
          obtain ⟨D, hD⟩ : ∃ D, D = metM s.nodes d q := ⟨_, rfl⟩
          rw [← hD] at hIq
          unfold metM at hD
          obtain ⟨M, hM⟩ : ∃ M, M = walkM s.nodes d q := ⟨_, rfl⟩
          rw [← hM] at hD hR hqb
          clear hI hM
          refine walkBF (And.intro hxp (And.intro @iPV_eq (And.intro hkq (And.intro hwz (And.intro e0 (And.intro e1 e2)))))) ?_
          refine walkC (hIq) ?_
          cases hm1 : M.1 with
          | false =>
            rw [hm1, if_neg (by simp)] at hD hR
            subst hR
            obtain rfl : V = -1 := hV
            subst hD
            refine walkB ?_
            refine ⟨by first | exact .inr rfl | exact .inl rfl, ?_⟩; rw [Tryz.results135]; simp only [resOk, resV, go_sem, Int.reduceBEq, Int.reduceLE, Int.reduceLT, Int.reduceNeg, Nat.reduceAdd, Nat.reduceEqDiff, Nat.reduceLT, Nat.reduceLeDiff, Nat.reduceMul, Nat.reduceSub, reduceCtorEq, ↓reduceIte]
            exact .c _
          | true =>
            rw [hm1, if_pos rfl] at hD hR
            subst hD
            have e3 : decide (((M.2 : Nat) : Int) < 0) = false := by simp
            refine walkBF (And.intro e3 hw) ?_
            refine .next ⟨(i + 1, M.2), by simp only []; omega, hqb, hR⟩ ?_ (by simp only []; omega)
            simp only [Weak, eq_self, used_is, sc_any, sc_c, sc_pp, sc_ref, sc_row, sc_agg, sc_fn, ScL, some_imp, List.forall_mem_map, go_sem, Int.reduceBEq, Int.reduceLE, Int.reduceLT, Int.reduceNeg, Nat.reduceAdd, Nat.reduceEqDiff, Nat.reduceLT, Nat.reduceLeDiff, Nat.reduceMul, Nat.reduceSub, reduceCtorEq, ↓reduceIte]
            try exact cI (by omega)
        · rw [if_neg hk] at hR
          have e2 : decide (x < (q : Int)) = true := by simp; omega
          have hkq : (x == (q : Int)) = false := by simpa using hk
          obtain ⟨j, rfl⟩ : ∃ j : Nat, x = (j : Int) := ⟨x.toNat, by omega⟩
          have hj : j < s.nodes.length := by omega
          obtain ⟨m, hm⟩ : ∃ m, s.nodes[j]? = some m := ⟨s.nodes[j], List.getElem?_eq_getElem hj⟩
          have hmp : (s.nodes.map NT.cells)[j]? = some m.cells := by rw [List.getElem?_map, hm]; rfl
          have hka : kindAt s.nodes ((j : Int)).toNat = m.kind := by rw [Int.toNat_natCast, kindAt, hm]
          rw [hka] at hR
          have hN := rnamed10_told m.kind
          refine walkBF (And.intro hxp (And.intro @iPV_eq (And.intro hkq (And.intro e0 (And.intro e1 (And.intro e2 (And.intro hmp @ncells_mk))))))) ?_
          refine walkC (hN) ?_
          refine walkGF (hkq) ?_
          refine VC.cond (by rfl) (by trivial) (fun hc3 => ?_) (fun hc3 => ?_)
          · have hf : R = (false, q) := by
              rw [if_pos (.inr (.inr (by simpa using hc3)))] at hR
              exact hR.symm
            subst hf
            obtain rfl : V = -1 := hV
            refine walkG ?_
            refine ⟨by first | exact .inr rfl | exact .inl rfl, ?_⟩; rw [Tryz.results135]; simp only [resOk, resV, go_sem, Int.reduceBEq, Int.reduceLE, Int.reduceLT, Int.reduceNeg, Nat.reduceAdd, Nat.reduceEqDiff, Nat.reduceLT, Nat.reduceLeDiff, Nat.reduceMul, Nat.reduceSub, reduceCtorEq, ↓reduceIte]
            exact .c _
          · have hnn : namedK m.kind = true := by simpa using hc3
            have hno : ¬ ((j : Int) < 0 ∨ (j : Int) > (q : Int) ∨ namedK m.kind = false) := by
              rintro (h | h | h)
              · exact hx0 h
              · exact hxq h
              · rw [hnn] at h
                exact absurd h (by simp)
            rw [if_neg hno] at hR
            refine walkBF (And.intro hw hkq) ?_
            refine .next ⟨(i + 1, q), by simp only []; omega, hq, hR⟩ ?_ (by simp only []; omega)
            simp only [Weak, eq_self, used_is, sc_any, sc_c, sc_pp, sc_ref, sc_row, sc_agg, sc_fn, ScL, some_imp, List.forall_mem_map, go_sem, Int.reduceBEq, Int.reduceLE, Int.reduceLT, Int.reduceNeg, Nat.reduceAdd, Nat.reduceEqDiff, Nat.reduceLT, Nat.reduceLeDiff, Nat.reduceMul, Nat.reduceSub, reduceCtorEq, ↓reduceIte]
            try exact cI (by omega)
      · have hie : i = ks.length := by simp at hc2; omega
        have hf : R = (true, q) := by
          rw [hie, List.drop_length, walkK] at hR
          exact hR.symm
        subst hf
        obtain rfl : V = (q : Int) := hV
        refine walkG ?_
        refine ⟨by first | exact .inr rfl | exact .inl rfl, ?_⟩; rw [Tryz.results135]; simp only [resOk, resV, go_sem, Int.reduceBEq, Int.reduceLE, Int.reduceLT, Int.reduceNeg, Nat.reduceAdd, Nat.reduceEqDiff, Nat.reduceLT, Nat.reduceLeDiff, Nat.reduceMul, Nat.reduceSub, reduceCtorEq, ↓reduceIte]
        exact .c _
    · have hR : R = (false, p) := by
        rw [hR, List.getElem?_eq_none (by omega)]
      subst hR
      obtain rfl : V = -1 := hV
      have hge : decide ((p : Int) ≥ (s.nodes.length : Int)) = true := by simp; omega
      refine VC.told ent_135 Tryz.func135 rfl Tryz.ntmps135 (by simp) (by first | rfl | simp [AV.pureB, AV.pureL, pureL_c, pures]) (by first | rfl | simp [AV.pureB, AV.pureL, pureL_c, pures]) fun hb => ?_
      clear hb
      refine walkGF (hge) ?_
      refine VC.cond (by rfl) (by trivial) (fun hc => ?_) (fun hc => ?_)
      · refine walkG ?_
        refine ⟨by first | exact .inr rfl | exact .inl rfl, ?_⟩; rw [Tryz.results135]; simp only [resOk, resV, go_sem, Int.reduceBEq, Int.reduceLE, Int.reduceLT, Int.reduceNeg, Nat.reduceAdd, Nat.reduceEqDiff, Nat.reduceLT, Nat.reduceLeDiff, Nat.reduceMul, Nat.reduceSub, reduceCtorEq, ↓reduceIte]
        exact .c _
      · exact absurd hc (by simp)
set_option maxRecDepth 100000 in
set_option maxHeartbeats 800000 in
theorem rordered_told (s : ST) (hl : s.nodes.length ≤ 1000000) (hs : ∀ n ∈ s.nodes, n.sm 1000000) : Told Tryz.prog 95 [s.av] (.c (.v (.bool (orderedM s)))) := by
  have hW := met_told s hl hs 33 0 (by omega) (by omega) 0 (Nat.zero_le _)
  obtain ⟨D, hD⟩ : ∃ D, D = metM s.nodes 33 0 := ⟨_, rfl⟩
  rw [← hD] at hW
  unfold metM at hD
  have hle := walkM_le s.nodes 33 0 (Nat.zero_le _)
  have hv : orderedM s = (decide ((s.nodes.length : Int) ≥ 1) && decide ((s.nodes.length : Int) ≤ 200) && (s.root == 0) && (D == (s.nodes.length : Int))) := by
    have e1 : decide ((s.nodes.length : Int) ≥ 1) = decide (0 < s.nodes.length) := by simp; omega
    have e2 : decide ((s.nodes.length : Int) ≤ 200) = decide (s.nodes.length ≤ 200) := by simp; omega
    have e3 : (s.root == 0) = decide (s.root = 0) := by by_cases h : s.root = 0 <;> simp [h]
    have e4 : (D == (s.nodes.length : Int)) = ((walkM s.nodes 33 0).1 && decide ((walkM s.nodes 33 0).2 = s.nodes.length)) := by
      rw [hD]
      cases h1 : (walkM s.nodes 33 0).1 with
      | false =>
        simp
      | true =>
        by_cases h : (walkM s.nodes 33 0).2 = s.nodes.length
        · simp [h]
        · have : ¬ (((walkM s.nodes 33 0).2 : Int) = (s.nodes.length : Int)) := by omega
          simp [h, this]
    rw [orderedM, e1, e2, e3, e4]
    simp only [Bool.and_assoc]
  obtain ⟨V, hV⟩ : ∃ V, V = orderedM s := ⟨_, rfl⟩
  rw [← hV] at hv ⊢
  clear hV hD hle
  replace hv := Lib.hid hv
  simp only [ST.av_eq, scells_mk, List.map_cons, List.map_nil] at hW
  rw [ST.av_eq, scells_mk]
  rw [show ((0 : Nat) : Int) = 0 from rfl] at hW
  refine VC.told ent_95 Tryz.func95 rfl Tryz.ntmps95 (by simp) (by first | rfl | simp [AV.pureB, AV.pureL, pureL_c, pures]) (by first | rfl | simp [AV.pureB, AV.pureL, pureL_c, pures]) fun hb => ?_
  clear hb
  refine walkG ?_
  refine walkD (hW) ?_
  refine walkG ?_
  refine ⟨by first | exact .inr rfl | exact .inl rfl, ?_⟩; rw [Tryz.results95]; simp only [resOk, resV, go_sem, Int.reduceBEq, Int.reduceLE, Int.reduceLT, Int.reduceNeg, Nat.reduceAdd, Nat.reduceEqDiff, Nat.reduceLT, Nat.reduceLeDiff, Nat.reduceMul, Nat.reduceSub, reduceCtorEq, ↓reduceIte]
  rw [hv.out]
  exact .c _
end

inductive MQF {ι : Type} (l : ι → List (Nat × AV)) (hl : ι → List (Nat × Blkd)) (n : Nat) (Q : Exit → ASt → Prop) : Exit → ASt → Prop
  | normal {σ : ASt} (j : ι) (h : Weak σ (l j) (hl j) n) : MQF l hl n Q .normal σ
  | ret {σ : ASt} (h : Q .ret σ) : MQF l hl n Q .ret σ
  | exit {σ : ASt} {id : Nat} (h : Q (.exit id) σ) : MQF l hl n Q (.exit id) σ
instance pF1 {ι : Type} {lv : ι → List (Nat × AV)} {hl : ι → List (Nat × Blkd)} {n : Nat} {σ : ASt} {Q : Exit → ASt → Prop} : Pass (MQF lv hl n Q .ret σ) (Q .ret σ) := ⟨.ret⟩
instance pF2 {ι : Type} {lv : ι → List (Nat × AV)} {hl : ι → List (Nat × Blkd)} {n : Nat} {σ : ASt} {Q : Exit → ASt → Prop} {id : Nat} : Pass (MQF lv hl n Q (.exit id) σ) (Q (.exit id) σ) := ⟨.exit⟩
theorem VC.meetF {P : Program} {N : Nat} {σ : ASt} {Q : Exit → ASt → Prop} {x y : Code} {ι : Type} (l : ι → List (Nat × AV)) (hl : ι → List (Nat × Blkd)) (n : Nat) (h1 : VC P N x σ (MQF l hl n Q)) (h2 : ∀ j, VC P N y (st (l j) (hl j) n) Q) : VC P N x σ (SQ P N y Q) :=
  h1.mono fun e σ h => by
    cases h with
    | normal j h => exact .normal (VC.weak (l j) (hl j) n h (h2 j))
    | ret h => exact .ret h
    | exit h => exact .exit h
section

def isChr (c : Int) : Bool := decide (0 ≤ c ∧ c ≤ 1114111 ∧ (c < 55296 ∨ 57344 ≤ c))
def uenc (c : Nat) : List UInt8 :=
  if c < 128 then [c.toUInt8] else if c < 2048 then [(192 + c / 64).toUInt8, (128 + c % 64).toUInt8]
  else if c < 65536 then [(224 + c / 4096).toUInt8, (128 + c / 64 % 64).toUInt8, (128 + c % 64).toUInt8]
  else [(240 + c / 262144).toUInt8, (128 + c / 4096 % 64).toUInt8, (128 + c / 64 % 64).toUInt8, (128 + c % 64).toUInt8]
theorem uenc_len (c : Nat) : (uenc c).length ≤ 4 := by
  unfold uenc
  split
  · simp
  · split
    · simp
    · split <;> simp
variable {l : List UInt8} {p : Nat}
def bN (l : List UInt8) (i : Nat) : Nat := (byteAt l i).toNat
theorem bN_lt (l : List UInt8) (i : Nat) : bN l i < 256 := (byteAt l i).toNat_lt
def UForm (l : List UInt8) (p : Nat) (n : Nat) : Prop :=
  (n = 1 ∧ p < l.length ∧ bN l p < 128) ∨
  (n = 2 ∧ p + 1 < l.length ∧ 194 ≤ bN l p ∧ bN l p < 224 ∧ 128 ≤ bN l (p + 1) ∧ bN l (p + 1) < 192) ∨
  (n = 3 ∧ p + 2 < l.length ∧ 224 ≤ bN l p ∧ bN l p < 240 ∧ 128 ≤ bN l (p + 1) ∧ bN l (p + 1) < 192 ∧ 128 ≤ bN l (p + 2) ∧ bN l (p + 2) < 192 ∧ (bN l p = 224 → 160 ≤ bN l (p + 1)) ∧ (bN l p = 237 → bN l (p + 1) ≤ 159)) ∨
  (n = 4 ∧ p + 3 < l.length ∧ 240 ≤ bN l p ∧ bN l p < 245 ∧ 128 ≤ bN l (p + 1) ∧ bN l (p + 1) < 192 ∧ 128 ≤ bN l (p + 2) ∧ bN l (p + 2) < 192 ∧ 128 ≤ bN l (p + 3) ∧ bN l (p + 3) < 192 ∧ (bN l p = 240 → 144 ≤ bN l (p + 1)) ∧ (bN l p = 244 → bN l (p + 1) ≤ 143))
def cvN (l : List UInt8) (p n : Nat) : Int :=
  if n = 1 then (bN l p : Int) else if n = 2 then ((bN l p : Int) - 192) * 64 + ((bN l (p + 1) : Int) - 128)
  else if n = 3 then ((bN l p : Int) - 224) * 4096 + ((bN l (p + 1) : Int) - 128) * 64 + ((bN l (p + 2) : Int) - 128)
  else ((bN l p : Int) - 240) * 262144 + ((bN l (p + 1) : Int) - 128) * 4096 + ((bN l (p + 2) : Int) - 128) * 64 + ((bN l (p + 3) : Int) - 128)
def wtest (l : List UInt8) (p n : Nat) : Bool := isChr (cvN l p n) && (((uenc (cvN l p n).toNat).length == n) && (uenc (cvN l p n).toNat).isPrefixOf (l.drop p))
theorem ustep_zero {i : Nat} : ustep l p i = 0 ↔ p + i < l.length ∧ 128 ≤ bN l (p + i) ∧ bN l (p + i) < 192 ∧ (i = 1 → ulo (byteAt l p) ≤ bN l (p + i) ∧ bN l (p + i) ≤ uhi (byteAt l p)) := by
  unfold ustep ucont usec bN
  by_cases h : p + i < l.length
  · rw [if_pos h]
    simp only [decide_eq_true_eq]
    split
    · rename_i h2; simp only [h, true_and, true_iff]; exact ⟨h2.1.1, h2.1.2, h2.2⟩
    · rename_i h2
      constructor
      · intro h3; omega
      · intro h3; exact absurd ⟨⟨h3.2.1, h3.2.2.1⟩, h3.2.2.2⟩ h2
  · rw [if_neg h]
    constructor
    · intro h3; omega
    · intro h3; exact absurd h3.1 h
theorem ustat_zero {k : Nat} : ustat l p (k + 1) = 0 ↔ ustat l p k = 0 ∧ ustep l p (k + 1) = 0 := by
  simp only [ustat]
  split
  · rename_i h; simp [h]
  · rename_i h; simp [h]
theorem ulo_le (c : UInt8) : (c.toNat = 224 → ulo c = 160) ∧ (c.toNat = 240 → ulo c = 144) ∧ (c.toNat ≠ 224 → c.toNat ≠ 240 → ulo c = 128) := by
  unfold ulo
  refine ⟨fun h => by rw [if_pos h], fun h => by rw [if_neg (by omega), if_pos h], fun h h' => by rw [if_neg h, if_neg h']⟩
theorem uhi_le (c : UInt8) : (c.toNat = 237 → uhi c = 159) ∧ (c.toNat = 244 → uhi c = 143) ∧ (c.toNat ≠ 237 → c.toNat ≠ 244 → uhi c = 191) := by
  unfold uhi
  refine ⟨fun h => by rw [if_pos h], fun h => by rw [if_neg (by omega), if_pos h], fun h h' => by rw [if_neg h, if_neg h']⟩
theorem ufirst_one {c : UInt8} (h : c.toNat < 128) : ufirst c = 1 := by unfold ufirst; rw [if_pos h]
theorem ufirst_two {c : UInt8} (h : 194 ≤ c.toNat) (h' : c.toNat < 224) : ufirst c = 2 := by unfold ufirst; rw [if_neg (by omega), if_neg (by omega), if_pos h']
theorem ufirst_three {c : UInt8} (h : 224 ≤ c.toNat) (h' : c.toNat < 240) : ufirst c = 3 := by unfold ufirst; rw [if_neg (by omega), if_neg (by omega), if_neg (by omega), if_pos h']
theorem ufirst_four {c : UInt8} (h : 240 ≤ c.toNat) (h' : c.toNat < 245) : ufirst c = 4 := by unfold ufirst; rw [if_neg (by omega), if_neg (by omega), if_neg (by omega), if_neg (by omega), if_pos h']
theorem ufirst_none {c : UInt8} (h : (128 ≤ c.toNat ∧ c.toNat < 194) ∨ 245 ≤ c.toNat) : ufirst c = 0 := by
  unfold ufirst
  rcases h with h | h
  · rw [if_neg (by omega), if_pos (by omega)]
  · rw [if_neg (by omega), if_neg (by omega), if_neg (by omega), if_neg (by omega), if_neg (by omega)]
theorem form_uerr {n : Nat} (h : UForm l p n) : uerr l p = 0 ∧ ulen l p = n := by
  have hlo := ulo_le (byteAt l p)
  have hhi := uhi_le (byteAt l p)
  unfold UForm at h
  unfold uerr ulen
  rcases h with ⟨rfl, h0, h1⟩ | ⟨rfl, h0, h1, h2, h3, h4⟩ | ⟨rfl, h0, h1, h2, h3, h4, h5, h6, h7, h8⟩ | ⟨rfl, h0, h1, h2, h3, h4, h5, h6, h7, h8, h9, h10⟩
  · rw [if_pos h0, ufirst_one h1]
    exact ⟨rfl, rfl⟩
  · rw [if_pos (by omega), ufirst_two h1 h2]
    refine ⟨?_, rfl⟩
    rw [if_neg (by decide)]
    have e1 : ustep l p 1 = 0 := ustep_zero.2 ⟨h0, h3, h4, fun _ => by unfold bN at *; rw [hlo.2.2 (by omega) (by omega), hhi.2.2 (by omega) (by omega)]; omega⟩
    exact ustat_zero.2 ⟨rfl, e1⟩
  · rw [if_pos (by omega), ufirst_three h1 h2]
    refine ⟨?_, rfl⟩
    rw [if_neg (by decide)]
    have e1 : ustep l p 1 = 0 := ustep_zero.2 ⟨by omega, h3, h4, fun _ => by
      unfold bN at *
      constructor
      · by_cases q : (byteAt l p).toNat = 224
        · rw [hlo.1 q]; exact h7 q
        · rw [hlo.2.2 q (by omega)]; exact h3
      · by_cases q : (byteAt l p).toNat = 237
        · rw [hhi.1 q]; exact h8 q
        · rw [hhi.2.2 q (by omega)]; omega⟩
    have e2 : ustep l p 2 = 0 := ustep_zero.2 ⟨by omega, h5, h6, fun q => by omega⟩
    exact ustat_zero.2 ⟨ustat_zero.2 ⟨rfl, e1⟩, e2⟩
  · rw [if_pos (by omega), ufirst_four h1 h2]
    refine ⟨?_, rfl⟩
    rw [if_neg (by decide)]
    have e1 : ustep l p 1 = 0 := ustep_zero.2 ⟨by omega, h3, h4, fun _ => by
      unfold bN at *
      constructor
      · by_cases q : (byteAt l p).toNat = 240
        · rw [hlo.2.1 q]; exact h9 q
        · rw [hlo.2.2 (by omega) q]; exact h3
      · by_cases q : (byteAt l p).toNat = 244
        · rw [hhi.2.1 q]; exact h10 q
        · rw [hhi.2.2 (by omega) q]; omega⟩
    have e2 : ustep l p 2 = 0 := ustep_zero.2 ⟨by omega, h5, h6, fun q => by omega⟩
    have e3 : ustep l p 3 = 0 := ustep_zero.2 ⟨by omega, h7, h8, fun q => by omega⟩
    exact ustat_zero.2 ⟨ustat_zero.2 ⟨ustat_zero.2 ⟨rfl, e1⟩, e2⟩, e3⟩
theorem uerr_form (h : uerr l p = 0) : UForm l p (ulen l p) := by
  have hlo := ulo_le (byteAt l p)
  have hhi := uhi_le (byteAt l p)
  unfold uerr at h
  unfold ulen UForm
  by_cases hp : p < l.length
  · rw [if_pos hp] at h
    have hb := bN_lt l p
    unfold bN at hb
    have hr : (byteAt l p).toNat < 128 ∨ ((128 ≤ (byteAt l p).toNat ∧ (byteAt l p).toNat < 194) ∨ 245 ≤ (byteAt l p).toNat) ∨ (194 ≤ (byteAt l p).toNat ∧ (byteAt l p).toNat < 224) ∨ (224 ≤ (byteAt l p).toNat ∧ (byteAt l p).toNat < 240) ∨ (240 ≤ (byteAt l p).toNat ∧ (byteAt l p).toNat < 245) := by omega
    rcases hr with hr | hr | hr | hr | hr
    · rw [ufirst_one hr]; exact .inl ⟨rfl, hp, hr⟩
    · rw [ufirst_none hr, if_pos rfl] at h; omega
    · rw [ufirst_two hr.1 hr.2, if_neg (by decide)] at h
      rw [ufirst_two hr.1 hr.2]
      have e1 := ustep_zero.1 (ustat_zero.1 h).2
      exact .inr (.inl ⟨rfl, e1.1, hr.1, hr.2, e1.2.1, e1.2.2.1⟩)
    · rw [ufirst_three hr.1 hr.2, if_neg (by decide)] at h
      rw [ufirst_three hr.1 hr.2]
      have h2 := ustat_zero.1 h
      have e2 := ustep_zero.1 h2.2
      have e1 := ustep_zero.1 (ustat_zero.1 h2.1).2
      have e1' := e1.2.2.2 rfl
      refine .inr (.inr (.inl ⟨rfl, e2.1, hr.1, hr.2, e1.2.1, e1.2.2.1, e2.2.1, e2.2.2.1, fun q => ?_, fun q => ?_⟩))
      · rw [hlo.1 q] at e1'; exact e1'.1
      · rw [hhi.1 q] at e1'; exact e1'.2
    · rw [ufirst_four hr.1 hr.2, if_neg (by decide)] at h
      rw [ufirst_four hr.1 hr.2]
      have h3 := ustat_zero.1 h
      have e3 := ustep_zero.1 h3.2
      have h2 := ustat_zero.1 h3.1
      have e2 := ustep_zero.1 h2.2
      have e1 := ustep_zero.1 (ustat_zero.1 h2.1).2
      have e1' := e1.2.2.2 rfl
      refine .inr (.inr (.inr ⟨rfl, e3.1, hr.1, hr.2, e1.2.1, e1.2.2.1, e2.2.1, e2.2.2.1, e3.2.1, e3.2.2.1, fun q => ?_, fun q => ?_⟩))
      · rw [hlo.2.1 q] at e1'; exact e1'.1
      · rw [hhi.2.1 q] at e1'; exact e1'.2
  · rw [if_neg hp] at h; omega
theorem drop_cons {l : List UInt8} {p : Nat} (h : p < l.length) : l.drop p = byteAt l p :: l.drop (p + 1) := by
  rw [List.drop_eq_getElem_cons h]
  unfold byteAt
  rw [List.getElem?_eq_getElem h]
  rfl
theorem pre_iff {l : List UInt8} : ∀ (xs : List UInt8) (p : Nat), xs ≠ [] → (xs.isPrefixOf (l.drop p) = true ↔ p + xs.length ≤ l.length ∧ ∀ i, i < xs.length → byteAt l (p + i) = xs[i]?.getD 0) := by
  intro xs
  induction xs with
  | nil => intro p h; exact absurd rfl h
  | cons x xs ih =>
    intro p _
    by_cases hp : p < l.length
    · rw [drop_cons hp, List.isPrefixOf_cons_cons, Bool.and_eq_true, beq_iff_eq]
      by_cases hx : xs = []
      · subst hx
        simp
        constructor
        · intro h; exact ⟨by omega, h.symm⟩
        · intro h; exact h.2.symm
      · rw [ih (p + 1) hx]
        constructor
        · rintro ⟨h1, h2, h3⟩
          refine ⟨by simp; omega, fun i hi => ?_⟩
          cases i with
          | zero => simpa using h1.symm
          | succ i =>
            have := h3 i (by simp at hi; omega)
            rw [show p + (i + 1) = p + 1 + i from by omega, this]
            simp
        · rintro ⟨h1, h2⟩
          refine ⟨by simpa using (h2 0 (by simp)).symm, by simp at h1; omega, fun i hi => ?_⟩
          have := h2 (i + 1) (by simp; omega)
          rw [show p + 1 + i = p + (i + 1) from by omega, this]
          simp
    · rw [List.drop_eq_nil_of_le (by omega)]
      constructor
      · intro h; simp at h
      · intro h; simp at h; omega
theorem u8_eq {c : UInt8} {n : Nat} (h : c.toNat = n) (hn : n < 256) : c = n.toUInt8 := by
  apply UInt8.toNat_inj.1
  simp
  omega
theorem u8_ne {c : UInt8} {n : Nat} (h : c = n.toUInt8) (hn : n < 256) : c.toNat = n := by
  rw [h]
  simp
  omega
theorem isChr_iff {c : Int} : isChr c = true ↔ 0 ≤ c ∧ c ≤ 1114111 ∧ (c < 55296 ∨ 57344 ≤ c) := by unfold isChr; simp
theorem form_test {n : Nat} (h : UForm l p n) : wtest l p n = true := by
  unfold UForm at h
  unfold wtest
  rw [Bool.and_eq_true, Bool.and_eq_true, isChr_iff, beq_iff_eq]
  rcases h with ⟨rfl, h0, h1⟩ | ⟨rfl, h0, h1, h2, h3, h4⟩ | ⟨rfl, h0, h1, h2, h3, h4, h5, h6, h7, h8⟩ | ⟨rfl, h0, h1, h2, h3, h4, h5, h6, h7, h8, h9, h10⟩
  · have hc : cvN l p 1 = (bN l p : Int) := rfl
    obtain ⟨c, e⟩ : ∃ c, c = (cvN l p 1).toNat := ⟨_, rfl⟩
    have hu : uenc c = [c.toUInt8] := by unfold uenc; rw [if_pos (by omega)]
    rw [← e, hu]
    refine ⟨by omega, rfl, (pre_iff _ p (by simp)).2 ⟨by simp; omega, fun i hi => ?_⟩⟩
    simp at hi
    subst hi
    exact u8_eq (by unfold bN at *; simp; omega) (by omega)
  · have hc : cvN l p 2 = ((bN l p : Int) - 192) * 64 + ((bN l (p + 1) : Int) - 128) := rfl
    obtain ⟨c, e⟩ : ∃ c, c = (cvN l p 2).toNat := ⟨_, rfl⟩
    have hu : uenc c = [(192 + c / 64).toUInt8, (128 + c % 64).toUInt8] := by unfold uenc; rw [if_neg (by omega), if_pos (by omega)]
    rw [← e, hu]
    refine ⟨by omega, rfl, (pre_iff _ p (by simp)).2 ⟨by simp; omega, fun i hi => ?_⟩⟩
    simp at hi
    have hi : i = 0 ∨ i = 1 := by omega
    rcases hi with rfl | rfl
    · exact u8_eq (by unfold bN at *; simp; omega) (by omega)
    · exact u8_eq (by unfold bN at *; omega) (by omega)
  · have hc : cvN l p 3 = ((bN l p : Int) - 224) * 4096 + ((bN l (p + 1) : Int) - 128) * 64 + ((bN l (p + 2) : Int) - 128) := rfl
    obtain ⟨c, e⟩ : ∃ c, c = (cvN l p 3).toNat := ⟨_, rfl⟩
    have hu : uenc c = [(224 + c / 4096).toUInt8, (128 + c / 64 % 64).toUInt8, (128 + c % 64).toUInt8] := by unfold uenc; rw [if_neg (by omega), if_neg (by omega), if_pos (by omega)]
    rw [← e, hu]
    refine ⟨by omega, rfl, (pre_iff _ p (by simp)).2 ⟨by simp; omega, fun i hi => ?_⟩⟩
    simp at hi
    have hi : i = 0 ∨ i = 1 ∨ i = 2 := by omega
    rcases hi with rfl | rfl | rfl
    · exact u8_eq (by unfold bN at *; simp; omega) (by omega)
    · exact u8_eq (by unfold bN at *; omega) (by omega)
    · exact u8_eq (by unfold bN at *; omega) (by omega)
  · have hc : cvN l p 4 = ((bN l p : Int) - 240) * 262144 + ((bN l (p + 1) : Int) - 128) * 4096 + ((bN l (p + 2) : Int) - 128) * 64 + ((bN l (p + 3) : Int) - 128) := rfl
    obtain ⟨c, e⟩ : ∃ c, c = (cvN l p 4).toNat := ⟨_, rfl⟩
    have hu : uenc c = [(240 + c / 262144).toUInt8, (128 + c / 4096 % 64).toUInt8, (128 + c / 64 % 64).toUInt8, (128 + c % 64).toUInt8] := by unfold uenc; rw [if_neg (by omega), if_neg (by omega), if_neg (by omega)]
    rw [← e, hu]
    refine ⟨by omega, rfl, (pre_iff _ p (by simp)).2 ⟨by simp; omega, fun i hi => ?_⟩⟩
    simp at hi
    have hi : i = 0 ∨ i = 1 ∨ i = 2 ∨ i = 3 := by omega
    rcases hi with rfl | rfl | rfl | rfl
    · exact u8_eq (by unfold bN at *; simp; omega) (by omega)
    · exact u8_eq (by unfold bN at *; omega) (by omega)
    · exact u8_eq (by unfold bN at *; omega) (by omega)
    · exact u8_eq (by unfold bN at *; omega) (by omega)
theorem uenc_cases (c : Nat) : (c < 128 ∧ uenc c = [c.toUInt8]) ∨ (128 ≤ c ∧ c < 2048 ∧ uenc c = [(192 + c / 64).toUInt8, (128 + c % 64).toUInt8]) ∨
    (2048 ≤ c ∧ c < 65536 ∧ uenc c = [(224 + c / 4096).toUInt8, (128 + c / 64 % 64).toUInt8, (128 + c % 64).toUInt8]) ∨ (65536 ≤ c ∧ uenc c = [(240 + c / 262144).toUInt8, (128 + c / 4096 % 64).toUInt8, (128 + c / 64 % 64).toUInt8, (128 + c % 64).toUInt8]) := by
  unfold uenc
  by_cases h1 : c < 128
  · exact .inl ⟨h1, if_pos h1⟩
  by_cases h2 : c < 2048
  · exact .inr (.inl ⟨by omega, h2, by rw [if_neg h1, if_pos h2]⟩)
  by_cases h3 : c < 65536
  · exact .inr (.inr (.inl ⟨by omega, h3, by rw [if_neg h1, if_neg h2, if_pos h3]⟩))
  · exact .inr (.inr (.inr ⟨by omega, by rw [if_neg h1, if_neg h2, if_neg h3]⟩))
theorem enc_form {c : Nat} (hc : isChr (c : Int) = true) (h : (uenc c).isPrefixOf (l.drop p) = true) : UForm l p (uenc c).length := by
  have hch := isChr_iff.1 hc
  unfold UForm
  rcases uenc_cases c with ⟨h1, e⟩ | ⟨h1, h2, e⟩ | ⟨h1, h2, e⟩ | ⟨h1, e⟩
  · rw [e] at h ⊢
    obtain ⟨q1, q2⟩ := (pre_iff _ p (by simp)).1 h
    have b0 := u8_ne (q2 0 (by simp)) (by omega)
    simp at q1 b0
    refine .inl ⟨rfl, by omega, by unfold bN; omega⟩
  · rw [e] at h ⊢
    obtain ⟨q1, q2⟩ := (pre_iff _ p (by simp)).1 h
    have b0 := u8_ne (q2 0 (by simp)) (by omega)
    have b1 := u8_ne (q2 1 (by simp)) (by omega)
    simp only [Nat.add_zero, List.length_cons, List.length_nil] at q1 b0
    refine .inr (.inl ⟨rfl, by omega, ?_⟩)
    unfold bN
    omega
  · rw [e] at h ⊢
    obtain ⟨q1, q2⟩ := (pre_iff _ p (by simp)).1 h
    have b0 := u8_ne (q2 0 (by simp)) (by omega)
    have b1 := u8_ne (q2 1 (by simp)) (by omega)
    have b2 := u8_ne (q2 2 (by simp)) (by omega)
    simp only [Nat.add_zero, List.length_cons, List.length_nil] at q1 b0
    refine .inr (.inr (.inl ⟨rfl, by omega, ?_⟩))
    unfold bN
    omega
  · rw [e] at h ⊢
    obtain ⟨q1, q2⟩ := (pre_iff _ p (by simp)).1 h
    have b0 := u8_ne (q2 0 (by simp)) (by omega)
    have b1 := u8_ne (q2 1 (by simp)) (by omega)
    have b2 := u8_ne (q2 2 (by simp)) (by omega)
    have b3 := u8_ne (q2 3 (by simp)) (by omega)
    simp only [Nat.add_zero, List.length_cons, List.length_nil] at q1 b0
    refine .inr (.inr (.inr ⟨rfl, by omega, ?_⟩))
    unfold bN
    omega
theorem test_form {n : Nat} (h : wtest l p n = true) : UForm l p n := by
  unfold wtest at h
  rw [Bool.and_eq_true, Bool.and_eq_true, beq_iff_eq] at h
  obtain ⟨h1, h2, h3⟩ := h
  have h0 := isChr_iff.1 h1
  have := enc_form (l := l) (p := p) (c := (cvN l p n).toNat) (by rw [show (((cvN l p n).toNat : Nat) : Int) = cvN l p n from by omega]; exact h1) h3
  rwa [h2] at this
def wholeV (l : List UInt8) (p : Nat) : Int := if uerr l p = 0 then cvN l p (ulen l p) else -1
theorem wtest_n {n : Nat} (h : wtest l p n = true) : wholeV l p = cvN l p n := by
  obtain ⟨h1, h2⟩ := form_uerr (test_form h)
  unfold wholeV
  rw [if_pos h1, h2]
theorem wtest_none (h1 : wtest l p 1 = false) (h2 : wtest l p 2 = false) (h3 : wtest l p 3 = false) (h4 : wtest l p 4 = false) : wholeV l p = -1 := by
  unfold wholeV
  rw [if_neg]
  intro he
  have hf := uerr_form he
  have ht := form_test hf
  have hn : ulen l p = 1 ∨ ulen l p = 2 ∨ ulen l p = 3 ∨ ulen l p = 4 := by unfold UForm at hf; omega
  rcases hn with hn | hn | hn | hn <;> rw [hn] at ht <;> simp_all
theorem wtest_long {n : Nat} (h : l.length < p + n) : wtest l p n = false ∨ n = 0 := by
  by_cases h0 : n = 0
  · exact .inr h0
  · left
    cases ht : wtest l p n with
    | false => rfl
    | true =>
      have := test_form ht
      unfold UForm at this
      omega
theorem wholeV_len (h : 0 ≤ wholeV l p) : uerr l p = 0 ∧ isChr (wholeV l p) = true ∧ (uenc (wholeV l p).toNat).length = ulen l p := by
  unfold wholeV at h ⊢
  by_cases he : uerr l p = 0
  · rw [if_pos he] at h ⊢
    have ht := form_test (uerr_form he)
    unfold wtest at ht
    rw [Bool.and_eq_true, Bool.and_eq_true, beq_iff_eq] at ht
    exact ⟨he, ht.1, ht.2.1⟩
  · rw [if_neg he] at h
    omega
theorem notest {m : List UInt8} {n : Nat} (h : ∀ k, 1 ≤ k → k < n → wtest m 0 k = false) (hn : wtest m 0 n = false) : ∀ k, 1 ≤ k → k < n + 1 → wtest m 0 k = false := by
  intro k h1 h2
  rcases Nat.lt_or_ge k n with h3 | h3
  · exact h k h1 h3
  · obtain rfl : k = n := by omega
    exact hn
theorem byteAt_drop (l : List UInt8) (p i : Nat) : byteAt (l.drop p) i = byteAt l (p + i) := by
  unfold byteAt
  rw [List.getElem?_drop]
theorem bN_drop (l : List UInt8) (p i : Nat) : bN (l.drop p) i = bN l (p + i) := by unfold bN; rw [byteAt_drop]
theorem form_drop {l : List UInt8} {p n : Nat} : UForm (l.drop p) 0 n ↔ UForm l p n := by
  have e : ∀ k, (k < l.length - p) = (p + k < l.length) := fun k => propext (by omega)
  unfold UForm
  simp only [bN_drop, List.length_drop, Nat.zero_add, Nat.add_zero, e]
theorem cvN_drop (l : List UInt8) (p n : Nat) : cvN (l.drop p) 0 n = cvN l p n := by
  unfold cvN
  simp only [bN_drop, Nat.zero_add, Nat.add_zero]
theorem wholeV_drop (l : List UInt8) (p : Nat) : wholeV (l.drop p) 0 = wholeV l p := by
  by_cases h : uerr l p = 0
  · have hf := uerr_form h
    have h2 := form_uerr (form_drop.2 hf)
    unfold wholeV
    rw [if_pos h, if_pos h2.1, h2.2, cvN_drop]
  · have h2 : uerr (l.drop p) 0 ≠ 0 := fun e => h (form_uerr (form_drop.1 (uerr_form e))).1
    unfold wholeV
    rw [if_neg h, if_neg h2]
def fillL (j : Nat) : List UInt8 := if j = 0 then [128, 128, 128] else if j = 1 then [191, 191, 191] else if j = 2 then [160, 128, 128] else if j = 3 then [144, 128, 128] else if j = 4 then [143, 191, 191] else [159, 191, 191]
theorem fillL_len (j : Nat) : (fillL j).length = 3 := by
  unfold fillL
  repeat' split
  all_goals rfl
end
section
attribute [local go_sem] opx opE ev okx gcond bnd okO AV.get AV.okb cAV upd_at putd_some putd_none wrs_nil wrs_cons look_nil look_cons st argT_at bpick_and bpick_or bpick_true bpick_false binV binI binS binVOk binOk isShift binSOk unV unVOk loadV loadP cellsA zeroA Blkd.len setE grown moreA moreR moreOk eqRes pv fillA fillE putSeg AV.cellish AV.pureL AV.pureB lentL_is ex_some AV.ren AV.renL renL_c Blkd.ren rho wrM renN lentOk rhoE keepM endOk tyA_2 tyA_3 tyA_4 tyA_5 tyA_6 tyA_7 tyA_8 tyA_9 tyA_10 tyA_11 tyA_12 tyA_13 tyA_14 tyA_15 tyA_16 tyA_17 tyA_18 tyA_19 tyA_21 tyA_22 tyA_23 tyA_24 tyA_29 tyA_30 tyA_31 tyA_32 tyA_33 tyA_34 tyA_35 tyA_36 tyA_37 tyA_38 tyA_39 tyA_40 tyA_41 tyA_42 tyA_43 tyA_51 tyA_73 tyA_77 tyA_99 tyA_100 tyA_101 tyA_114 tyA_120 tyA_121 tyA_122 tyA_131 tyA_132 tyA_133 tyA_134 tyA_135 tyA_138 tyA_139 tyA_140 tyA_149 tyA_163 tyA_168 tyA_210 tyA_212 tyA_219 tyA_227 tyA_231 tyA_233 tyA_237 tyA_238 tyA_239 tyA_240 tyA_241 tyA_243 tyA_244 tyA_246 tyA_247 tyA_248 tyA_251 Option.map_some Option.map_none Option.getD_some Option.getD_none Option.bind_some Option.bind_none List.getElem?_cons_zero List.getElem?_cons_succ List.getElem?_nil List.getElem?_toArray List.length_cons List.length_nil List.length_map List.forall_mem_map List.map_cons List.map_nil List.drop_zero List.drop_succ_cons List.drop_nil List.take_zero List.take_succ_cons List.take_nil List.mem_cons List.not_mem_nil or_false forall_eq_or_imp forall_eq List.set_cons_zero List.set_cons_succ List.cons_append List.nil_append List.append_nil List.foldl_cons List.foldl_nil List.replicate_succ List.replicate_zero List.all_cons List.all_nil if_true if_false Bool.false_eq_true ne_eq not_false_eq_true not_true_eq_false true_and and_true and_self true_implies imp_self implies_true forall_const beq_self_eq_true Bool.and_true Bool.true_and Bool.and_false Bool.false_and Bool.or_true Bool.true_or Bool.or_false Bool.false_or Bool.not_true Bool.not_false Bool.not_eq_eq_eq_not intKindOf Value.oneCell' Int.toNat_natCast beq_true beq_false Bool.not_eq_true false_implies false_or true_or or_true Nat.zero_add Nat.add_zero decide_true decide_false Int.cast_ofNat_Int Int.toNat_zero Int.toNat_one eq_self

def byP (b : UInt8) : List PV := [.v (.int .u8 (b.toNat : Int))]
theorem bpvOk (l : List UInt8) : bytesOk (bytePV l) = True := eq_true (bytePV_ok l)
theorem rchar_told (c : Int) : Told Tryz.prog 212 [.c (.v (.int .i64 c))] (.c (.v (.bool (isChr c)))) := by
  obtain ⟨V, hV⟩ : ∃ V, V = isChr c := ⟨_, rfl⟩
  rw [← hV]
  have hv : V = ((decide (c ≥ 0) && decide (c ≤ 1114111)) && (decide (c < 55296) || decide (c > 57343))) := by
    rw [hV, isChr, Bool.eq_iff_iff]
    simp
    omega
  clear hV
  replace hv := Lib.hid hv
  refine VC.told ent_212 Tryz.func212 rfl Tryz.ntmps212 (by simp) (by first | rfl | simp [AV.pureB, AV.pureL, pureL_c, pures]) (by first | rfl | simp [AV.pureB, AV.pureL, pureL_c, pures]) fun hb => ?_
  clear hb
  refine walkG ?_
  refine ⟨by first | exact .inr rfl | exact .inl rfl, ?_⟩; rw [Tryz.results212]; simp only [resOk, resV, go_sem, Int.reduceBEq, Int.reduceLE, Int.reduceLT, Int.reduceNeg, Nat.reduceAdd, Nat.reduceEqDiff, Nat.reduceLT, Nat.reduceLeDiff, Nat.reduceMul, Nat.reduceSub, reduceCtorEq, ↓reduceIte]
  rw [hv.out]
  exact .c _
set_option maxRecDepth 100000 in
set_option maxHeartbeats 800000 in
theorem rput_told (c : Nat) (hc : c ≤ 1114111) : Told Tryz.prog 196 [.c (.v (.int .i64 (c : Int)))] (.c (.sl 1 (bytePV (uenc c)))) := by
  have hU : ∀ (z : Int) (n : Nat), z = (n : Int) → n < 256 → IntKind.u8.wrap z = ((n.toUInt8).toNat : Int) := fun z n h1 h2 => by
    rw [IntKind.wrap_u8, h1]
    simp
  have hQ : ∀ (a b : Nat), a ≤ 1114111 → IntKind.i64.wrap (Int.tdiv (a : Int) (b : Int)) = ((a / b : Nat) : Int) := fun a b h => by
    have e : Int.tdiv (a : Int) (b : Int) = ((a / b : Nat) : Int) := by simp [Int.tdiv]
    have := Nat.div_le_self a b
    rw [e]
    generalize a / b = q at this
    exact wrap64_id (by omega) (by omega)
  have hR : ∀ (a b : Nat), Int.tmod (a : Int) (b : Int) = ((a % b : Nat) : Int) := fun a b => by simp [Int.tmod]
  have hW : ∀ (k n : Nat), k + n < 256 → IntKind.u8.wrap (IntKind.i64.wrap ((k : Int) + (n : Int))) = (((k + n).toUInt8).toNat : Int) := fun k n h => by
    rw [wrap64_id (by omega) (by omega)]
    exact hU _ (k + n) (by omega) h
  have q1 := hQ c 64 hc
  have q2 := hQ c 4096 hc
  have q3 := hQ c 262144 hc
  have r1 := hR c 64
  have r2 := hR (c / 64) 64
  have r3 := hR (c / 4096) 64
  by_cases h1 : c < 128
  · have hE : uenc c = [c.toUInt8] := by rw [uenc, if_pos h1]
    have e1 : decide ((c : Int) < 128) = true := by simp; omega
    rw [hE]
    refine VC.told ent_196 Tryz.func196 rfl Tryz.ntmps196 (by simp) (by first | rfl | simp [AV.pureB, AV.pureL, pureL_c, pures]) (by first | rfl | simp [AV.pureB, AV.pureL, pureL_c, pures]) fun hb => ?_
    clear hb
    refine walkBF (e1) ?_
    rw [hU (c : Int) c rfl (by omega)]
    refine ⟨by first | exact .inr rfl | exact .inl rfl, ?_⟩; rw [Tryz.results196]; simp only [resOk, resV, go_sem, Int.reduceBEq, Int.reduceLE, Int.reduceLT, Int.reduceNeg, Nat.reduceAdd, Nat.reduceEqDiff, Nat.reduceLT, Nat.reduceLeDiff, Nat.reduceMul, Nat.reduceSub, reduceCtorEq, ↓reduceIte]
    exact frz_rA (f := byP) (l := [c.toUInt8]) rfl rfl rfl (by simp [byP])
  have e1 : decide ((c : Int) < 128) = false := by simp; omega
  by_cases h2 : c < 2048
  · have hE : uenc c = [(192 + c / 64).toUInt8, (128 + c % 64).toUInt8] := by rw [uenc, if_neg h1, if_pos h2]
    have e2 : decide ((c : Int) < 2048) = true := by simp; omega
    rw [hE]
    refine VC.told ent_196 Tryz.func196 rfl Tryz.ntmps196 (by simp) (by first | rfl | simp [AV.pureB, AV.pureL, pureL_c, pures]) (by first | rfl | simp [AV.pureB, AV.pureL, pureL_c, pures]) fun hb => ?_
    clear hb
    refine walkBF (And.intro e1 e2) ?_
    rw [show (64 : Int) = ((64 : Nat) : Int) from rfl, q1, r1, show (192 : Int) = ((192 : Nat) : Int) from rfl, show (128 : Int) = ((128 : Nat) : Int) from rfl, hW 192 _ (by omega), hW 128 _ (by omega)]
    refine ⟨by first | exact .inr rfl | exact .inl rfl, ?_⟩; rw [Tryz.results196]; simp only [resOk, resV, go_sem, Int.reduceBEq, Int.reduceLE, Int.reduceLT, Int.reduceNeg, Nat.reduceAdd, Nat.reduceEqDiff, Nat.reduceLT, Nat.reduceLeDiff, Nat.reduceMul, Nat.reduceSub, reduceCtorEq, ↓reduceIte]
    exact frz_rA (f := byP) (l := [(192 + c / 64).toUInt8, (128 + c % 64).toUInt8]) rfl rfl rfl (by simp [byP])
  have e2 : decide ((c : Int) < 2048) = false := by simp; omega
  by_cases h3 : c < 65536
  · have hE : uenc c = [(224 + c / 4096).toUInt8, (128 + c / 64 % 64).toUInt8, (128 + c % 64).toUInt8] := by rw [uenc, if_neg h1, if_neg h2, if_pos h3]
    have e3 : decide ((c : Int) < 65536) = true := by simp; omega
    rw [hE]
    refine VC.told ent_196 Tryz.func196 rfl Tryz.ntmps196 (by simp) (by first | rfl | simp [AV.pureB, AV.pureL, pureL_c, pures]) (by first | rfl | simp [AV.pureB, AV.pureL, pureL_c, pures]) fun hb => ?_
    clear hb
    refine walkBF (And.intro e1 (And.intro e2 e3)) ?_
    rw [show (64 : Int) = ((64 : Nat) : Int) from rfl, show (4096 : Int) = ((4096 : Nat) : Int) from rfl, q1, q2, r1, r2, show (224 : Int) = ((224 : Nat) : Int) from rfl, show (128 : Int) = ((128 : Nat) : Int) from rfl, hW 224 _ (by omega), hW 128 (c / 64 % 64) (by omega), hW 128 (c % 64) (by omega)]
    refine ⟨by first | exact .inr rfl | exact .inl rfl, ?_⟩; rw [Tryz.results196]; simp only [resOk, resV, go_sem, Int.reduceBEq, Int.reduceLE, Int.reduceLT, Int.reduceNeg, Nat.reduceAdd, Nat.reduceEqDiff, Nat.reduceLT, Nat.reduceLeDiff, Nat.reduceMul, Nat.reduceSub, reduceCtorEq, ↓reduceIte]
    exact frz_rA (f := byP) (l := [(224 + c / 4096).toUInt8, (128 + c / 64 % 64).toUInt8, (128 + c % 64).toUInt8]) rfl rfl rfl (by simp [byP])
  · have hE : uenc c = [(240 + c / 262144).toUInt8, (128 + c / 4096 % 64).toUInt8, (128 + c / 64 % 64).toUInt8, (128 + c % 64).toUInt8] := by rw [uenc, if_neg h1, if_neg h2, if_neg h3]
    have e3 : decide ((c : Int) < 65536) = false := by simp; omega
    rw [hE]
    refine VC.told ent_196 Tryz.func196 rfl Tryz.ntmps196 (by simp) (by first | rfl | simp [AV.pureB, AV.pureL, pureL_c, pures]) (by first | rfl | simp [AV.pureB, AV.pureL, pureL_c, pures]) fun hb => ?_
    clear hb
    refine walkBF (And.intro e1 (And.intro e2 e3)) ?_
    rw [show (64 : Int) = ((64 : Nat) : Int) from rfl, show (4096 : Int) = ((4096 : Nat) : Int) from rfl, show (262144 : Int) = ((262144 : Nat) : Int) from rfl, q1, q2, q3, r1, r2, r3, show (240 : Int) = ((240 : Nat) : Int) from rfl, show (128 : Int) = ((128 : Nat) : Int) from rfl, hW 240 _ (by omega), hW 128 (c / 64 % 64) (by omega), hW 128 (c % 64) (by omega), hW 128 (c / 4096 % 64) (by omega)]
    refine ⟨by first | exact .inr rfl | exact .inl rfl, ?_⟩; rw [Tryz.results196]; simp only [resOk, resV, go_sem, Int.reduceBEq, Int.reduceLE, Int.reduceLT, Int.reduceNeg, Nat.reduceAdd, Nat.reduceEqDiff, Nat.reduceLT, Nat.reduceLeDiff, Nat.reduceMul, Nat.reduceSub, reduceCtorEq, ↓reduceIte]
    exact frz_rA (f := byP) (l := [(240 + c / 262144).toUInt8, (128 + c / 4096 % 64).toUInt8, (128 + c / 64 % 64).toUInt8, (128 + c % 64).toUInt8]) rfl rfl rfl (by simp [byP])
set_option maxRecDepth 100000 in
set_option maxHeartbeats 800000 in
theorem rstarts_told (b a : List UInt8) (hb1 : b.length ≤ 1000000) (ha1 : a.length ≤ 1000000) : Told Tryz.prog 213 [.c (.sl 1 (bytePV b)), .c (.sl 1 (bytePV a))] (.c (.v (.bool (a.isPrefixOf b)))) := by
  have la : (bytePV a).length = a.length := by simp [bytePV]
  have lb : (bytePV b).length = b.length := by simp [bytePV]
  have tb : (bytePV b).take a.length = bytePV (b.take a.length) := by simp [bytePV, List.map_take]
  by_cases h : a.length ≤ b.length
  · have hv : a.isPrefixOf b = (b.take a.length == a) := by
      rw [Bool.eq_iff_iff, List.isPrefixOf_iff_prefix, List.prefix_iff_eq_take, beq_iff_eq]
      exact ⟨fun e => e.symm, fun e => e.symm⟩
    have e1 : decide ((a.length : Int) ≤ (b.length : Int)) = true := by simp; omega
    have s1 : (⟨(b.take a.length).toArray⟩ : ByteArray).toList = b.take a.length := str_toList _
    have s2 : (⟨a.toArray⟩ : ByteArray).toList = a := str_toList _
    rw [hv]
    refine VC.told ent_213 Tryz.func213 rfl Tryz.ntmps213 (by simp) (by first | rfl | simp [AV.pureB, AV.pureL, pureL_c, pures]) (by first | rfl | simp [AV.pureB, AV.pureL, pureL_c, pures]) fun hb => ?_
    clear hb
    (repeat (first | refine pass ?_ | refine VC.region (by rfl) (by rfl) ?_ | (refine AO.step fun K hK => ?_; simp only [la, lb, e1, tb, bytesOf_pv, bpvOk, bstr, s1, s2, go_sem, Int.reduceBEq, Int.reduceLE, Int.reduceLT, Int.reduceNeg, Nat.reduceAdd, Nat.reduceEqDiff, Nat.reduceLT, Nat.reduceLeDiff, Nat.reduceMul, Nat.reduceSub, reduceCtorEq, ↓reduceIte]; (first | refine gsel_skip ?_ | refine gsel_go ?_ | skip); (first | refine hK _ _ _ ?_ | refine ⟨by first | omega | exact ⟨_, rfl, rfl⟩ | exact fun _ => ⟨_, rfl, rfl⟩ | (intro h; simp only [la, lb, e1, tb, bytesOf_pv, bpvOk, bstr, s1, s2, h, true_and]; omega) | (clear hK; intro h; simp_all <;> omega), hK _ _ _ ?_⟩); clear hK K) | refine VC.draw mixP (by rfl) (by rfl) ?_ | refine ⟨okd_of (by kernel_rfl), ?_⟩ | refine BQ.other (by decide) ?_ | refine VC.seq ?_ | refine AO.nil ?_ | refine VC.block ?_))
    refine ⟨by first | exact .inr rfl | exact .inl rfl, ?_⟩; rw [Tryz.results213]; simp only [resOk, resV, go_sem, Int.reduceBEq, Int.reduceLE, Int.reduceLT, Int.reduceNeg, Nat.reduceAdd, Nat.reduceEqDiff, Nat.reduceLT, Nat.reduceLeDiff, Nat.reduceMul, Nat.reduceSub, reduceCtorEq, ↓reduceIte]
    exact .c _
  · have hv : a.isPrefixOf b = false := by
      rw [Bool.eq_false_iff]
      intro e
      exact h (List.isPrefixOf_iff_prefix.1 e).length_le
    have e1 : decide ((a.length : Int) ≤ (b.length : Int)) = false := by simp; omega
    rw [hv]
    refine VC.told ent_213 Tryz.func213 rfl Tryz.ntmps213 (by simp) (by first | rfl | simp [AV.pureB, AV.pureL, pureL_c, pures]) (by first | rfl | simp [AV.pureB, AV.pureL, pureL_c, pures]) fun hb => ?_
    clear hb
    refine walkBF (And.intro la (And.intro lb e1)) ?_
    refine ⟨by first | exact .inr rfl | exact .inl rfl, ?_⟩; rw [Tryz.results213]; simp only [resOk, resV, go_sem, Int.reduceBEq, Int.reduceLE, Int.reduceLT, Int.reduceNeg, Nat.reduceAdd, Nat.reduceEqDiff, Nat.reduceLT, Nat.reduceLeDiff, Nat.reduceMul, Nat.reduceSub, reduceCtorEq, ↓reduceIte]
    exact .c _
end
end Go.Proofs.YtmooihlndkgdaaaGreatDoor
