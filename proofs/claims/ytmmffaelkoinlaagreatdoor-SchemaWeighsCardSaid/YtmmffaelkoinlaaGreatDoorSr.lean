/- schema: Right and Find, as contracts. -/
import Derived.Test.YtmmffaelkoinlaaGreatDoorSl
import Derived.Test.YtmmffaelkoinlaaGreatDoorSn
import Derived.Test.YtmmffaelkoinlaaGreatDoorWe
import Derived.Test.YtmmffaelkoinlaaGreatDoorSh
import Derived.Test.YtmmffaelkoinlaaGreatDoorIxN
namespace Go.Proofs.YtmmffaelkoinlaaGreatDoor
open Go.RowKit
set_option linter.unusedVariables false
set_option linter.unusedSimpArgs false
attribute [local go_sem] opx opE ev okx gcond bnd okO AV.get AV.okb cAV upd_at putd_some putd_none wrs_nil wrs_cons look_nil look_cons st argT_at bpick_and bpick_or bpick_true bpick_false binV binI binS binVOk binOk isShift binSOk unV unVOk loadV loadP cellsA zeroA Blkd.len setE grown moreA moreR moreOk eqRes pv fillA fillE putSeg AV.cellish AV.pureL AV.pureB lentL_is ex_some AV.ren AV.renL renL_c Blkd.ren rho wrM renN lentOk rhoE keepM endOk tyA_2 tyA_3 tyA_4 tyA_5 tyA_6 tyA_7 tyA_8 tyA_9 tyA_10 tyA_11 tyA_12 tyA_13 tyA_14 tyA_15 tyA_16 tyA_17 tyA_18 tyA_19 tyA_21 tyA_22 tyA_23 tyA_24 tyA_28 tyA_29 tyA_30 tyA_31 tyA_32 tyA_34 tyA_35 tyA_36 tyA_37 tyA_38 tyA_42 tyA_47 tyA_48 tyA_49 tyA_50 tyA_51 tyA_81 tyA_85 tyA_89 tyA_90 tyA_91 tyA_98 tyA_110 tyA_111 tyA_112 tyA_113 tyA_114 tyA_119 tyA_130 tyA_160 tyA_163 tyA_165 tyA_171 tyA_181 tyA_185 tyA_187 tyA_191 tyA_192 tyA_193 tyA_194 tyA_195 tyA_197 tyA_198 tyA_200 tyA_201 tyA_202 tyA_205 Option.map_some Option.map_none Option.getD_some Option.getD_none Option.bind_some Option.bind_none List.getElem?_cons_zero List.getElem?_cons_succ List.getElem?_nil List.getElem?_toArray List.length_cons List.length_nil List.length_map List.forall_mem_map List.map_cons List.map_nil List.drop_zero List.drop_succ_cons List.drop_nil List.take_zero List.take_succ_cons List.take_nil List.mem_cons List.not_mem_nil or_false forall_eq_or_imp forall_eq List.set_cons_zero List.set_cons_succ List.cons_append List.nil_append List.append_nil List.foldl_cons List.foldl_nil List.replicate_succ List.replicate_zero List.all_cons List.all_nil if_true if_false Bool.false_eq_true ne_eq not_false_eq_true not_true_eq_false true_and and_true and_self true_implies imp_self implies_true forall_const beq_self_eq_true Bool.and_true Bool.true_and Bool.and_false Bool.false_and Bool.or_true Bool.true_or Bool.or_false Bool.false_or Bool.not_true Bool.not_false Bool.not_eq_eq_eq_not intKindOf Value.oneCell' Int.toNat_natCast beq_true beq_false Bool.not_eq_true false_implies false_or true_or or_true Nat.zero_add Nat.add_zero decide_true decide_false Int.cast_ofNat_Int Int.toNat_zero Int.toNat_one eq_self

theorem namesM_take {ns : List NT} {i : Nat} {n : NT} (h : ns[i]? = some n) : namesM (ns.take (i + 1)) = namesM (ns.take i) ++ (if namedK n.kind = true then [n.name] else []) := by
  rw [List.take_add_one, h]
  simp only [namesM, List.filter_append, List.map_append, Option.toList_some]
  congr 1
  by_cases hk : namedK n.kind = true
  · simp [hk]
  · simp [hk]
theorem rA_rep (N : Nat) : rA iPV (List.replicate N 0) = List.replicate N [AV.c (.v (.int .i64 0))] := by
  simp [rA, iPV]
theorem ordered_kids {s : ST} (h : orderedM s = true) : ∀ n ∈ s.nodes, ∀ k ∈ kidsN n, 0 ≤ k ∧ k < (s.nodes.length : Int) := by
  intro n hn k hk
  obtain ⟨i, hi⟩ := List.getElem?_of_mem hn
  have := (ordered_stand h).1 i n (Nat.zero_le _) (List.getElem?_eq_some_iff.1 hi).1 hi k hk
  exact ⟨this.1, this.2.1⟩
theorem names_sm {ns : List NT} {N : Nat} (h : ∀ n ∈ ns, n.sm N) : ∀ x ∈ namesM ns, x.length ≤ N := by
  intro x hx
  obtain ⟨n, hn, rfl⟩ := List.mem_map.1 hx
  exact (h n (List.mem_filter.1 hn).1).1
theorem names_len (ns : List NT) : (namesM ns).length ≤ ns.length := by
  unfold namesM
  rw [List.length_map]
  exact List.length_filter_le _ _
set_option maxRecDepth 100000 in
set_option maxHeartbeats 1600000 in
theorem sRight_told (s : ST) (hsm : s.sm 1000000) : Told Tryz.prog 10 [s.av] (.c (.v (.bool (rightM s)))) := by
  obtain ⟨V, hV⟩ : ∃ V, V = rightM s := ⟨_, rfl⟩
  rw [← hV]
  unfold rightM at hV
  obtain ⟨hl, hs⟩ := hsm
  have hO := ordered_told s hl hs
  simp only [ST.av_eq, scells_mk, List.map_cons, List.map_nil] at hO
  rw [ST.av_eq, scells_mk]
  cases ho : orderedM s with
  | false =>
    rw [ho] at hO hV
    obtain rfl : V = false := hV
    refine VC.told ent_10 Tryz.func10 rfl Tryz.ntmps10 (by simp) (by first | rfl | simp [AV.pureB, AV.pureL, pureL_c, pures]) (by first | rfl | simp [AV.pureB, AV.pureL, pureL_c, pures]) fun hb => ?_
    clear hb
    refine walkG ?_
    refine walkC (hO) ?_
    refine walkB ?_
    refine ⟨by first | exact .inr rfl | exact .inl rfl, ?_⟩; rw [Tryz.results10]; simp only [resOk, resV, go_sem, Int.reduceBEq, Int.reduceLE, Int.reduceLT, Int.reduceNeg, Nat.reduceAdd, Nat.reduceEqDiff, Nat.reduceLT, Nat.reduceLeDiff, Nat.reduceMul, Nat.reduceSub, reduceCtorEq, ↓reduceIte]
    exact .c _
  | true =>
  rw [ho] at hO hV
  have hki := ordered_kids ho
  rw [Bool.true_and] at hV
  obtain ⟨R, hR⟩ : ∃ R, R = rightL s.nodes s.nodes 0 (List.replicate s.nodes.length 0) := ⟨_, rfl⟩
  rw [← hR] at hV
  have hnm : ∀ i, (namesM (s.nodes.take i)).length ≤ 1000000 := fun i => by
    have := names_len (s.nodes.take i)
    rw [List.length_take] at this
    omega
  refine VC.told ent_10 Tryz.func10 rfl Tryz.ntmps10 (by simp) (by first | rfl | simp [AV.pureB, AV.pureL, pureL_c, pures]) (by first | rfl | simp [AV.pureB, AV.pureL, pureL_c, pures]) fun hb => ?_
  clear hb
  refine walkG ?_
  refine walkC (hO) ?_
  refine walkB ?_
  refine VC.nil 3 9 1 (by rfl) (by trivial) (by rfl) ?_
  refine VC.loop (ι := {x : Nat × List Int // x.1 ≤ s.nodes.length ∧ x.2.length = s.nodes.length ∧ KnOk x.2 ∧ rightL s.nodes (s.nodes.drop x.1) x.1 x.2 = R})
    (fun q => [(1, .ref 0 1 0 0), (3, .row 120 (namesM (s.nodes.take q.1.1)).length), (4, .row 72 s.nodes.length), (15, .c (.sl 10 (s.nodes.map NT.cells))), (16, .c (.v (.int .i64 (s.nodes.length : Int)))), (17, .c (.v (.int .i64 (q.1.1 : Int))))])
    (fun q => [(0, ⟨false, 24, 2, [[.c (.sl 10 (s.nodes.map NT.cells)), .c (.v (.int .i64 s.root))]]⟩), (72, ⟨true, 3, 1, rA iPV q.1.2⟩), (120, ⟨true, 9, 1, rA sPV (namesM (s.nodes.take q.1.1))⟩)]) 800 (fun q => s.nodes.length - q.1.1)
    ⟨(0, List.replicate s.nodes.length 0), Nat.zero_le _, by simp, fun x hx => by obtain rfl := (List.mem_replicate.1 hx).2; decide, by rw [List.drop_zero]; exact hR.symm⟩ ?_ ?_
  · simp only [rA_len, rA_sc, rA_rep, List.length_replicate, Weak, eq_self, used_is, sc_any, sc_c, sc_pp, sc_ref, sc_row, sc_agg, sc_fn, ScL, some_imp, List.forall_mem_map, go_sem, Int.reduceBEq, Int.reduceLE, Int.reduceLT, Int.reduceNeg, Nat.reduceAdd, Nat.reduceEqDiff, Nat.reduceLT, Nat.reduceLeDiff, Nat.reduceMul, Nat.reduceSub, reduceCtorEq, ↓reduceIte]
    refine ⟨rfl, rfl, ⟨Nat.le_refl _, Nat.le_refl _⟩, fun e he x hx => ?_⟩
    obtain rfl := (List.mem_replicate.1 he).2
    obtain rfl := List.mem_singleton.1 hx
    exact .c
  clear hR hO
  rintro ⟨⟨i, kn⟩, hi, hk, hko, hR⟩
  simp only [] at hi hk hko hR ⊢
  have hkl : (rA iPV kn).length = s.nodes.length := by rw [rA_len, hk]
  refine walkG ?_
  refine VC.cond (by rfl) (by trivial) (fun hc => ?_) (fun hc => ?_)
  · have hlt : i < s.nodes.length := by simp at hc; omega
    obtain ⟨n, hn⟩ : ∃ n, s.nodes[i]? = some n := ⟨s.nodes[i], List.getElem?_eq_getElem hlt⟩
    have hnp : (s.nodes.map NT.cells)[i]? = some n.cells := by rw [List.getElem?_map, hn]; rfl
    have hw : IntKind.i64.wrap ((i : Int) + 1) = (i : Int) + 1 := wrap64_id (by omega) (by omega)
    have hmem := List.mem_of_getElem? hn
    have hNd := node_told s n (hs n hmem) fun h13 k hk => hki n hmem k (by rw [kidsN, if_neg (by omega), if_neg (by omega), if_pos h13]; exact hk)
    have hNm := named_told n.kind
    have hW := weight_told s hl hs (fun m hm h9 f hf => hki m hm f.type (by rw [kidsN, if_pos h9]; exact List.mem_map.2 ⟨f, hf, rfl⟩)) (s.nodes.length + 1) i kn hlt hk hko (by have := List.count_le_length (a := (0 : Int)) (l := kn); omega)
    obtain ⟨w1, w2, w3, w4, w5⟩ := weighM_ok s.nodes (s.nodes.length + 1) i kn hk hko
    rw [(List.drop_eq_getElem_cons hlt).trans (by rw [(List.getElem?_eq_some_iff.1 hn).2]), rightL] at hR
    obtain ⟨M, hM⟩ : ∃ M, M = weighM s.nodes (s.nodes.length + 1) i kn := ⟨_, rfl⟩
    rw [← hM] at hW hR w1 w2 w3 w4 w5
    clear hM
    simp only [ST.av_eq, scells_mk, NT.av_eq, ncells_mk, List.map_cons, List.map_nil] at hNd hW
    have hkl2 : (rA iPV M.2).length = s.nodes.length := by rw [rA_len, w1]
    have hnl : (rA sPV (namesM (s.nodes.take i))).length = (namesM (s.nodes.take i)).length := rA_len _ _
    have hnt := namesM_take hn
    have hni := hnm i
    cases hnn : nodeM s.nodes n with
    | false =>
      rw [hnn] at hNd hR
      obtain rfl : R = false := hR.symm
      obtain rfl : V = false := hV
      refine walkGF (And.intro hnp (And.intro @ncells_mk hkl)) ?_
      refine walkC (hNd) ?_
      refine walkB ?_
      refine ⟨by first | exact .inr rfl | exact .inl rfl, ?_⟩; rw [Tryz.results10]; simp only [resOk, resV, go_sem, Int.reduceBEq, Int.reduceLE, Int.reduceLT, Int.reduceNeg, Nat.reduceAdd, Nat.reduceEqDiff, Nat.reduceLT, Nat.reduceLeDiff, Nat.reduceMul, Nat.reduceSub, reduceCtorEq, ↓reduceIte]
      exact .c _
    | true =>
      rw [hnn] at hNd hR
      rw [Bool.true_and] at hR
      refine walkGF (And.intro hnp (And.intro @ncells_mk hkl)) ?_
      refine walkC (hNd) ?_
      refine walkG ?_
      ((refine AO.step fun K hK => ?_; simp only [go_sem, Int.reduceBEq, Int.reduceLE, Int.reduceLT, Int.reduceNeg, Nat.reduceAdd, Nat.reduceEqDiff, Nat.reduceLT, Nat.reduceLeDiff, Nat.reduceMul, Nat.reduceSub, reduceCtorEq, ↓reduceIte, hkl, rA_ren]; (first | refine gsel_go ?_ | skip)); refine .inr (.inr (.inl ⟨?vy1, [72], ?va1, ?vl1, ?vm1, ?cond1, ?cont1⟩)); (case cond1 => ((repeat' apply And.intro) <;> (try ((with_reducible show ToldM _ _ _ _ _ _); exact hW))); (all_goals first | trivial | (simp only [hkl, rA_ren, go_sem, Int.reduceBEq, Int.reduceLE, Int.reduceLT, Int.reduceNeg, Nat.reduceAdd, Nat.reduceEqDiff, Nat.reduceLT, Nat.reduceLeDiff, Nat.reduceMul, Nat.reduceSub, reduceCtorEq, ↓reduceIte]; done) | (simp; done) | rfl)); (first | refine hK _ _ _ ?_ | (simp only [hkl, rA_ren, go_sem, Int.reduceBEq, Int.reduceLE, Int.reduceLT, Int.reduceNeg, Nat.reduceAdd, Nat.reduceEqDiff, Nat.reduceLT, Nat.reduceLeDiff, Nat.reduceMul, Nat.reduceSub, reduceCtorEq, ↓reduceIte]; first | refine hK _ _ _ ?_ | refine ⟨rfl, hK _ _ _ ?_⟩)); clear hK K)
      refine walkG ?_
      refine VC.cond (by rfl) (by trivial) (fun hc2 => ?_) (fun hc2 => ?_)
      · have hf : V = false := by
          have : ¬ M.1 ≤ 1000 := by simp at hc2; omega
          rw [hV, ← hR]
          simp [this]
        subst hf
        refine walkG ?_
        refine ⟨by first | exact .inr rfl | exact .inl rfl, ?_⟩; rw [Tryz.results10]; simp only [resOk, resV, go_sem, Int.reduceBEq, Int.reduceLE, Int.reduceLT, Int.reduceNeg, Nat.reduceAdd, Nat.reduceEqDiff, Nat.reduceLT, Nat.reduceLeDiff, Nat.reduceMul, Nat.reduceSub, reduceCtorEq, ↓reduceIte]
        exact .c _
      have hm1 : M.1 ≤ 1000 := by simp at hc2; omega
      have hR2 : rightL s.nodes (s.nodes.drop (i + 1)) (i + 1) M.2 = R := by
        rw [← hR]
        simp [hm1]
      refine walkGF (hkl2) ?_
      refine walkC (hNm) ?_
      refine walkG ?_
      refine VC.cond (by rfl) (by trivial) (fun hc3 => ?_) (fun hc3 => ?_)
      · rw [if_pos hc3] at hnt
        have hr : rA sPV (namesM (s.nodes.take i)) ++ [[.c (.v (.string (str n.name)))]] = rA sPV (namesM (s.nodes.take (i + 1))) := by
          rw [hnt]
          exact rA_one sPV _ n.name
        have hl2 : (namesM (s.nodes.take (i + 1))).length = (namesM (s.nodes.take i)).length + 1 := by rw [hnt]; simp
        refine walkGF (And.intro hnl (And.intro hr hw)) ?_
        refine .next ⟨(i + 1, M.2), by simp only []; omega, w1, w2, hR2⟩ ?_ (by simp only []; omega)
        simp only [rA_len, rA_sc, rA_ren, w1, hl2, Weak, eq_self, used_is, sc_any, sc_c, sc_pp, sc_ref, sc_row, sc_agg, sc_fn, ScL, some_imp, List.forall_mem_map, go_sem, Int.reduceBEq, Int.reduceLE, Int.reduceLT, Int.reduceNeg, Nat.reduceAdd, Nat.reduceEqDiff, Nat.reduceLT, Nat.reduceLeDiff, Nat.reduceMul, Nat.reduceSub, reduceCtorEq, ↓reduceIte]
        exact ⟨cI (by omega), Nat.le_refl _, Nat.le_refl _⟩
      · rw [if_neg (by rw [hc3]; simp), List.append_nil] at hnt
        refine walkGF (hw) ?_
        refine .next ⟨(i + 1, M.2), by simp only []; omega, w1, w2, hR2⟩ ?_ (by simp only []; omega)
        simp only [rA_len, rA_sc, rA_ren, w1, hnt, Weak, eq_self, used_is, sc_any, sc_c, sc_pp, sc_ref, sc_row, sc_agg, sc_fn, ScL, some_imp, List.forall_mem_map, go_sem, Int.reduceBEq, Int.reduceLE, Int.reduceLT, Int.reduceNeg, Nat.reduceAdd, Nat.reduceEqDiff, Nat.reduceLT, Nat.reduceLeDiff, Nat.reduceMul, Nat.reduceSub, reduceCtorEq, ↓reduceIte]
        exact ⟨cI (by omega), Nat.le_refl _, Nat.le_refl _⟩
  · have hie : i = s.nodes.length := by simp at hc; omega
    have hf : R = true := by
      rw [← hR, hie, List.drop_length, rightL]
    subst hf
    rw [Bool.true_and] at hV
    have htk : s.nodes.take i = s.nodes := by rw [hie, List.take_length]
    rw [htk]
    have hnm0 := hnm i
    rw [htk] at hnm0
    have hD := different_told (g := 28) (rule := fullM) (namesM s.nodes) (by omega) fun x hx => full_told x (by have := names_sm hs x hx; omega)
    rw [← hV] at hD
    have hrl : (rA sPV (namesM s.nodes)).length = (namesM s.nodes).length := rA_len _ _
    refine walkGF (hrl) ?_
    (refine AO.step fun K hK => ?_; simp only [go_sem, Int.reduceBEq, Int.reduceLE, Int.reduceLT, Int.reduceNeg, Nat.reduceAdd, Nat.reduceEqDiff, Nat.reduceLT, Nat.reduceLeDiff, Nat.reduceMul, Nat.reduceSub, reduceCtorEq, ↓reduceIte, hrl]; (first | refine gsel_go ?_ | skip))
    refine .inr (.inl ⟨.c (.v (.bool V)), [.c (.sl 1 ((namesM s.nodes).map sPV)), .fn (.func 28) [] []], [120], ⟨by simp [AV.pureL, AV.pureB], rfl, fun k x z h5 h6 => ?_, rfl, hD⟩, hK _ _ _ ?_⟩)
    · match k with
      | 0 =>
        obtain rfl := Option.some.inj h5
        obtain rfl := Option.some.inj h6
        exact View.row (B := ⟨true, 9, 1, rA sPV (namesM s.nodes)⟩) (es := (namesM s.nodes).map sPV) rfl rfl hrl (rA_pv _ _)
      | 1 => obtain rfl := Option.some.inj h5; obtain rfl := Option.some.inj h6; exact .same _
      | k + 2 => simp at h5
    clear hK K
    refine walkG ?_
    refine ⟨by first | exact .inr rfl | exact .inl rfl, ?_⟩; rw [Tryz.results10]; simp only [resOk, resV, go_sem, Int.reduceBEq, Int.reduceLE, Int.reduceLT, Int.reduceNeg, Nat.reduceAdd, Nat.reduceEqDiff, Nat.reduceLT, Nat.reduceLeDiff, Nat.reduceMul, Nat.reduceSub, reduceCtorEq, ↓reduceIte]
    exact .c _

end Go.Proofs.YtmmffaelkoinlaaGreatDoor

namespace Go.Proofs.YtmmffaelkoinlaaGreatDoor
open Go.RowKit
set_option linter.unusedVariables false
set_option linter.unusedSimpArgs false
attribute [local go_sem] opx opE ev okx gcond bnd okO AV.get AV.okb cAV upd_at putd_some putd_none wrs_nil wrs_cons look_nil look_cons st argT_at bpick_and bpick_or bpick_true bpick_false binV binI binS binVOk binOk isShift binSOk unV unVOk loadV loadP cellsA zeroA Blkd.len setE grown moreA moreR moreOk eqRes pv fillA fillE putSeg AV.cellish AV.pureL AV.pureB lentL_is ex_some AV.ren AV.renL renL_c Blkd.ren rho wrM renN lentOk rhoE keepM endOk tyA_2 tyA_3 tyA_4 tyA_5 tyA_6 tyA_7 tyA_8 tyA_9 tyA_10 tyA_11 tyA_12 tyA_13 tyA_14 tyA_15 tyA_16 tyA_17 tyA_18 tyA_19 tyA_21 tyA_22 tyA_23 tyA_24 tyA_28 tyA_29 tyA_30 tyA_31 tyA_32 tyA_34 tyA_35 tyA_36 tyA_37 tyA_38 tyA_42 tyA_47 tyA_48 tyA_49 tyA_50 tyA_51 tyA_81 tyA_85 tyA_89 tyA_90 tyA_91 tyA_98 tyA_110 tyA_111 tyA_112 tyA_113 tyA_114 tyA_119 tyA_130 tyA_160 tyA_163 tyA_165 tyA_171 tyA_181 tyA_185 tyA_187 tyA_191 tyA_192 tyA_193 tyA_194 tyA_195 tyA_197 tyA_198 tyA_200 tyA_201 tyA_202 tyA_205 Option.map_some Option.map_none Option.getD_some Option.getD_none Option.bind_some Option.bind_none List.getElem?_cons_zero List.getElem?_cons_succ List.getElem?_nil List.getElem?_toArray List.length_cons List.length_nil List.length_map List.forall_mem_map List.map_cons List.map_nil List.drop_zero List.drop_succ_cons List.drop_nil List.take_zero List.take_succ_cons List.take_nil List.mem_cons List.not_mem_nil or_false forall_eq_or_imp forall_eq List.set_cons_zero List.set_cons_succ List.cons_append List.nil_append List.append_nil List.foldl_cons List.foldl_nil List.replicate_succ List.replicate_zero List.all_cons List.all_nil if_true if_false Bool.false_eq_true ne_eq not_false_eq_true not_true_eq_false true_and and_true and_self true_implies imp_self implies_true forall_const beq_self_eq_true Bool.and_true Bool.true_and Bool.and_false Bool.false_and Bool.or_true Bool.true_or Bool.or_false Bool.false_or Bool.not_true Bool.not_false Bool.not_eq_eq_eq_not intKindOf Value.oneCell' Int.toNat_natCast beq_true beq_false Bool.not_eq_true false_implies false_or true_or or_true Nat.zero_add Nat.add_zero decide_true decide_false Int.cast_ofNat_Int Int.toNat_zero Int.toNat_one eq_self

set_option maxRecDepth 100000 in
set_option maxHeartbeats 400000 in
theorem find1_told (n : NT) (name : List UInt8) : Told Tryz.prog 43 [n.av, .pp [.v (.string (str name))]] (.c (.v (.bool (isN name n)))) := by
  have hN := named_told n.kind
  obtain ⟨V, hV⟩ : ∃ V, V = isN name n := ⟨_, rfl⟩
  rw [← hV]
  unfold isN at hV
  replace hV := Lib.hid hV
  rw [NT.av_eq, ncells_mk]
  refine VC.told ent_43 Tryz.func43 rfl Tryz.ntmps43 (by simp) (by first | rfl | simp [AV.pureB, AV.pureL, pureL_c, pures]) (by first | rfl | simp [AV.pureB, AV.pureL, pureL_c, pures]) fun hb => ?_
  clear hb
  refine walkG ?_
  refine walkC (hN) ?_
  refine walkGF (@str_toList) ?_
  refine ⟨by first | exact .inr rfl | exact .inl rfl, ?_⟩; rw [Tryz.results43]; simp only [resOk, resV, go_sem, Int.reduceBEq, Int.reduceLE, Int.reduceLT, Int.reduceNeg, Nat.reduceAdd, Nat.reduceEqDiff, Nat.reduceLT, Nat.reduceLeDiff, Nat.reduceMul, Nat.reduceSub, reduceCtorEq, ↓reduceIte]
  rw [hV.out]
  exact .c _
theorem find_idx (s : ST) (name : List UInt8) : findM s name = idxP (isN name) s.nodes := rfl
set_option maxRecDepth 100000 in
set_option maxHeartbeats 400000 in
theorem find_told (s : ST) (name : List UInt8) : Told Tryz.prog 20 [s.av, .c (.v (.string (str name)))] (.c (.v (.int .i64 (findM s name)))) := by
  have hF := ixfN_told (g := 43) (fs := []) (cs := [.pp [.v (.string (str name))]]) rfl rfl s.nodes (isN name) fun n _ => find1_told n name
  rw [← find_idx] at hF
  rw [ST.av_eq, scells_mk]
  refine VC.told ent_20 Tryz.func20 rfl Tryz.ntmps20 (by simp) (by first | rfl | simp [AV.pureB, AV.pureL, pureL_c, pures]) (by first | rfl | simp [AV.pureB, AV.pureL, pureL_c, pures]) fun hb => ?_
  clear hb
  refine walkG ?_
  (refine AO.step fun K hK => ?_; simp only [go_sem, Int.reduceBEq, Int.reduceLE, Int.reduceLT, Int.reduceNeg, Nat.reduceAdd, Nat.reduceEqDiff, Nat.reduceLT, Nat.reduceLeDiff, Nat.reduceMul, Nat.reduceSub, reduceCtorEq, ↓reduceIte]; (first | refine gsel_go ?_ | skip))
  refine .inr (.inl ⟨.c (.v (.int .i64 (findM s name))), [.c (.sl 10 (s.nodes.map NT.cells)), .fn (.func 43) [] [.pp [.v (.string (str name))]]], [8], ⟨by rfl, rfl, fun k x z h5 h6 => ?_, rfl, hF⟩, hK _ _ _ ?_⟩)
  · match k with
    | 0 => obtain rfl := Option.some.inj h5; obtain rfl := Option.some.inj h6; exact .same _
    | 1 =>
      obtain rfl := Option.some.inj h5
      obtain rfl := Option.some.inj h6
      refine .fn rfl (by simp) rfl fun k x z h7 h8 => ?_
      match k with
      | 0 => obtain rfl := Option.some.inj h7; obtain rfl := Option.some.inj h8; exact View.ref (es := [.v (.string (str name))]) rfl rfl rfl rfl
      | k + 1 => simp at h7
    | k + 2 => simp at h5
  clear hK K
  refine walkG ?_
  refine ⟨by first | exact .inr rfl | exact .inl rfl, ?_⟩; rw [Tryz.results20]; simp only [resOk, resV, go_sem, Int.reduceBEq, Int.reduceLE, Int.reduceLT, Int.reduceNeg, Nat.reduceAdd, Nat.reduceEqDiff, Nat.reduceLT, Nat.reduceLeDiff, Nat.reduceMul, Nat.reduceSub, reduceCtorEq, ↓reduceIte]
  exact .c _

end Go.Proofs.YtmmffaelkoinlaaGreatDoor
