/- Texts that lead to the law FingerSchemas, joined. -/
import Derived.Test.YtkaogeogjjcdhaaGreatDoorPkFingerSchemasF
import Derived.Test.YtkaogeogjjcdhaaGreatDoorPkFingerSchemasD
import Derived.Test.YtkaogeogjjcdhaaGreatDoorPkFingerSchemasC
import Derived.Test.YtkaogeogjjcdhaaGreatDoorPkFingerSchemasE
import Derived.Test.YtkaogeogjjcdhaaGreatDoorPkFingerSchemasXAbB
import Derived.Test.YtkaogeogjjcdhaaGreatDoorPkFingerSchemasA
import Derived.Test.YtkaogeogjjcdhaaGreatDoorPkFingerSchemasB
namespace Go.Proofs.YtkaogeogjjcdhaaGreatDoor
open Go.RowKit
set_option linter.unusedVariables false
set_option linter.unusedSimpArgs false
section
attribute [local go_sem] opx opE ev okx gcond bnd okO AV.get AV.okb cAV upd_at putd_some putd_none wrs_nil wrs_cons look_nil look_cons st argT_at bpick_and bpick_or bpick_true bpick_false binV binI binS binVOk binOk isShift binSOk unV unVOk loadV loadP cellsA zeroA Blkd.len setE grown moreA moreR moreOk eqRes pv fillA fillE putSeg AV.cellish AV.pureL AV.pureB lentL_is ex_some AV.ren AV.renL renL_c Blkd.ren rho wrM renN lentOk rhoE keepM endOk tyA_2 tyA_3 tyA_4 tyA_5 tyA_6 tyA_7 tyA_8 tyA_9 tyA_10 tyA_11 tyA_12 tyA_13 tyA_14 tyA_15 tyA_16 tyA_17 tyA_18 tyA_19 tyA_21 tyA_22 tyA_23 tyA_24 tyA_29 tyA_30 tyA_31 tyA_32 tyA_33 tyA_34 tyA_35 tyA_36 tyA_37 tyA_38 tyA_39 tyA_40 tyA_41 tyA_42 tyA_43 tyA_48 tyA_89 tyA_93 tyA_107 tyA_108 tyA_109 tyA_113 tyA_114 tyA_115 tyA_116 tyA_117 tyA_119 tyA_120 tyA_121 tyA_122 tyA_131 tyA_134 tyA_135 tyA_136 tyA_137 tyA_138 tyA_154 tyA_156 tyA_157 tyA_158 tyA_159 tyA_170 tyA_180 tyA_181 tyA_182 tyA_196 tyA_202 tyA_208 tyA_209 tyA_210 tyA_211 tyA_212 tyA_213 tyA_229 tyA_230 tyA_231 tyA_241 tyA_264 tyA_268 tyA_293 tyA_294 tyA_295 tyA_311 tyA_313 tyA_321 tyA_326 tyA_334 tyA_338 tyA_340 tyA_343 tyA_344 tyA_345 tyA_346 tyA_347 tyA_348 tyA_349 tyA_351 tyA_352 Option.map_some Option.map_none Option.getD_some Option.getD_none Option.bind_some Option.bind_none List.getElem?_cons_zero List.getElem?_cons_succ List.getElem?_nil List.getElem?_toArray List.length_cons List.length_nil List.length_map List.forall_mem_map List.map_cons List.map_nil List.drop_zero List.drop_succ_cons List.drop_nil List.take_zero List.take_succ_cons List.take_nil List.mem_cons List.not_mem_nil or_false forall_eq_or_imp forall_eq List.set_cons_zero List.set_cons_succ List.cons_append List.nil_append List.append_nil List.foldl_cons List.foldl_nil List.replicate_succ List.replicate_zero List.all_cons List.all_nil if_true if_false Bool.false_eq_true ne_eq not_false_eq_true not_true_eq_false true_and and_true and_self true_implies imp_self implies_true forall_const beq_self_eq_true Bool.and_true Bool.true_and Bool.and_false Bool.false_and Bool.or_true Bool.true_or Bool.or_false Bool.false_or Bool.not_true Bool.not_false Bool.not_eq_eq_eq_not intKindOf Value.oneCell' Int.toNat_natCast beq_true beq_false Bool.not_eq_true false_implies false_or true_or or_true Nat.zero_add Nat.add_zero decide_true decide_false Int.cast_ofNat_Int Int.toNat_zero Int.toNat_one eq_self

theorem namesM_take {ns : List NT} {i : Nat} {n : NT} (h : ns[i]? = some n) : namesM (ns.take (i + 1)) = namesM (ns.take i) ++ (if namedK n.kind = true then [n.name] else []) := by
  rw [List.take_add_one, h]
  simp only [namesM, List.filter_append, List.map_append, Option.toList_some]
  congr 1
  by_cases hk : namedK n.kind = true
  · simp [hk]
  · simp [hk]
theorem rA_rep (N : Nat) : rA iPV (List.replicate N 0) = List.replicate N [AV.c (.v (.int .i64 0))] := by
  simp [rA, iPV]
theorem ordered_kids {s : ST} (h : orderedM s = true) : ∀ n ∈ s.nodes, ∀ k ∈ kidsN n, 0 ≤ k ∧ k < (s.nodes.length : Int) := by
  intro n hn k hk
  obtain ⟨i, hi⟩ := List.getElem?_of_mem hn
  have := (ordered_stand h).1 i n (Nat.zero_le _) (List.getElem?_eq_some_iff.1 hi).1 hi k hk
  exact ⟨this.1, this.2.1⟩
theorem names_sm {ns : List NT} {N : Nat} (h : ∀ n ∈ ns, n.sm N) : ∀ x ∈ namesM ns, x.length ≤ N := by
  intro x hx
  obtain ⟨n, hn, rfl⟩ := List.mem_map.1 hx
  exact (h n (List.mem_filter.1 hn).1).1
theorem names_len (ns : List NT) : (namesM ns).length ≤ ns.length := by
  unfold namesM
  rw [List.length_map]
  exact List.length_filter_le _ _
set_option maxRecDepth 100000 in
set_option maxHeartbeats 1600000 in
theorem sRight_told (s : ST) (hsm : s.sm 1000000) : Told Tryz.prog 52 [s.av] (.c (.v (.bool (rightM s)))) := by
  obtain ⟨V, hV⟩ : ∃ V, V = rightM s := ⟨_, rfl⟩
  rw [← hV]
  unfold rightM at hV
  obtain ⟨hl, hs⟩ := hsm
  have hO := ordered_told s hl hs
  simp only [ST.av_eq, scells_mk, List.map_cons, List.map_nil] at hO
  rw [ST.av_eq, scells_mk]
  cases ho : orderedM s with
  | false =>
    rw [ho] at hO hV
    obtain rfl : V = false := hV
    refine VC.told ent_52 Tryz.func52 rfl Tryz.ntmps52 (by simp) (by first | rfl | simp [AV.pureB, AV.pureL, pureL_c, pures]) (by first | rfl | simp [AV.pureB, AV.pureL, pureL_c, pures]) fun hb => ?_
    clear hb
    refine walkG ?_
    refine walkC (hO) ?_
    refine walkB ?_
    refine ⟨by first | exact .inr rfl | exact .inl rfl, ?_⟩; rw [Tryz.results52]; simp only [resOk, resV, go_sem, Int.reduceBEq, Int.reduceLE, Int.reduceLT, Int.reduceNeg, Nat.reduceAdd, Nat.reduceEqDiff, Nat.reduceLT, Nat.reduceLeDiff, Nat.reduceMul, Nat.reduceSub, reduceCtorEq, ↓reduceIte]
    exact .c _
  | true =>
  rw [ho] at hO hV
  have hki := ordered_kids ho
  rw [Bool.true_and] at hV
  obtain ⟨R, hR⟩ : ∃ R, R = rightL s.nodes s.nodes 0 (List.replicate s.nodes.length 0) := ⟨_, rfl⟩
  rw [← hR] at hV
  have hnm : ∀ i, (namesM (s.nodes.take i)).length ≤ 1000000 := fun i => by
    have := names_len (s.nodes.take i)
    rw [List.length_take] at this
    omega
  refine VC.told ent_52 Tryz.func52 rfl Tryz.ntmps52 (by simp) (by first | rfl | simp [AV.pureB, AV.pureL, pureL_c, pures]) (by first | rfl | simp [AV.pureB, AV.pureL, pureL_c, pures]) fun hb => ?_
  clear hb
  refine walkG ?_
  refine walkC (hO) ?_
  refine walkB ?_
  refine VC.nil 3 9 1 (by rfl) (by trivial) (by rfl) ?_
  refine VC.loop (ι := {x : Nat × List Int // x.1 ≤ s.nodes.length ∧ x.2.length = s.nodes.length ∧ KnOk x.2 ∧ rightL s.nodes (s.nodes.drop x.1) x.1 x.2 = R})
    (fun q => [(1, .ref 0 1 0 0), (3, .row 120 (namesM (s.nodes.take q.1.1)).length), (4, .row 72 s.nodes.length), (15, .c (.sl 10 (s.nodes.map NT.cells))), (16, .c (.v (.int .i64 (s.nodes.length : Int)))), (17, .c (.v (.int .i64 (q.1.1 : Int))))])
    (fun q => [(0, ⟨false, 24, 2, [[.c (.sl 10 (s.nodes.map NT.cells)), .c (.v (.int .i64 s.root))]]⟩), (72, ⟨true, 3, 1, rA iPV q.1.2⟩), (120, ⟨true, 9, 1, rA sPV (namesM (s.nodes.take q.1.1))⟩)]) 800 (fun q => s.nodes.length - q.1.1)
    ⟨(0, List.replicate s.nodes.length 0), Nat.zero_le _, by simp, fun x hx => by obtain rfl := (List.mem_replicate.1 hx).2; decide, by rw [List.drop_zero]; exact hR.symm⟩ ?_ ?_
  · simp only [rA_len, rA_sc, rA_rep, List.length_replicate, Weak, eq_self, used_is, sc_any, sc_c, sc_pp, sc_ref, sc_row, sc_agg, sc_fn, ScL, some_imp, List.forall_mem_map, go_sem, Int.reduceBEq, Int.reduceLE, Int.reduceLT, Int.reduceNeg, Nat.reduceAdd, Nat.reduceEqDiff, Nat.reduceLT, Nat.reduceLeDiff, Nat.reduceMul, Nat.reduceSub, reduceCtorEq, ↓reduceIte]
    refine ⟨rfl, rfl, ⟨Nat.le_refl _, Nat.le_refl _⟩, fun e he x hx => ?_⟩
    obtain rfl := (List.mem_replicate.1 he).2
    obtain rfl := List.mem_singleton.1 hx
    exact .c
  clear hR hO
  rintro ⟨⟨i, kn⟩, hi, hk, hko, hR⟩
  simp only [] at hi hk hko hR ⊢
  have hkl : (rA iPV kn).length = s.nodes.length := by rw [rA_len, hk]
  refine walkG ?_
  refine VC.cond (by rfl) (by trivial) (fun hc => ?_) (fun hc => ?_)
  · have hlt : i < s.nodes.length := by simp at hc; omega
    obtain ⟨n, hn⟩ : ∃ n, s.nodes[i]? = some n := ⟨s.nodes[i], List.getElem?_eq_getElem hlt⟩
    have hnp : (s.nodes.map NT.cells)[i]? = some n.cells := by rw [List.getElem?_map, hn]; rfl
    have hw : IntKind.i64.wrap ((i : Int) + 1) = (i : Int) + 1 := wrap64_id (by omega) (by omega)
    have hmem := List.mem_of_getElem? hn
    have hNd := node_told s n (hs n hmem) fun h13 k hk => hki n hmem k (by rw [kidsN, if_neg (by omega), if_neg (by omega), if_pos h13]; exact hk)
    have hNm := named_told n.kind
    have hW := weight_told s hl hs (fun m hm h9 f hf => hki m hm f.type (by rw [kidsN, if_pos h9]; exact List.mem_map.2 ⟨f, hf, rfl⟩)) (s.nodes.length + 1) i kn hlt hk hko (by have := List.count_le_length (a := (0 : Int)) (l := kn); omega)
    obtain ⟨w1, w2, w3, w4, w5⟩ := weighM_ok s.nodes (s.nodes.length + 1) i kn hk hko
    rw [(List.drop_eq_getElem_cons hlt).trans (by rw [(List.getElem?_eq_some_iff.1 hn).2]), rightL] at hR
    obtain ⟨M, hM⟩ : ∃ M, M = weighM s.nodes (s.nodes.length + 1) i kn := ⟨_, rfl⟩
    rw [← hM] at hW hR w1 w2 w3 w4 w5
    clear hM
    simp only [ST.av_eq, scells_mk, NT.av_eq, ncells_mk, List.map_cons, List.map_nil] at hNd hW
    have hkl2 : (rA iPV M.2).length = s.nodes.length := by rw [rA_len, w1]
    have hnl : (rA sPV (namesM (s.nodes.take i))).length = (namesM (s.nodes.take i)).length := rA_len _ _
    have hnt := namesM_take hn
    have hni := hnm i
    cases hnn : nodeM s.nodes n with
    | false =>
      rw [hnn] at hNd hR
      obtain rfl : R = false := hR.symm
      obtain rfl : V = false := hV
      refine walkGF (And.intro hnp (And.intro @ncells_mk hkl)) ?_
      refine walkC (hNd) ?_
      refine walkB ?_
      refine ⟨by first | exact .inr rfl | exact .inl rfl, ?_⟩; rw [Tryz.results52]; simp only [resOk, resV, go_sem, Int.reduceBEq, Int.reduceLE, Int.reduceLT, Int.reduceNeg, Nat.reduceAdd, Nat.reduceEqDiff, Nat.reduceLT, Nat.reduceLeDiff, Nat.reduceMul, Nat.reduceSub, reduceCtorEq, ↓reduceIte]
      exact .c _
    | true =>
      rw [hnn] at hNd hR
      rw [Bool.true_and] at hR
      refine walkGF (And.intro hnp (And.intro @ncells_mk hkl)) ?_
      refine walkC (hNd) ?_
      refine walkG ?_
      ((refine AO.step fun K hK => ?_; simp only [go_sem, Int.reduceBEq, Int.reduceLE, Int.reduceLT, Int.reduceNeg, Nat.reduceAdd, Nat.reduceEqDiff, Nat.reduceLT, Nat.reduceLeDiff, Nat.reduceMul, Nat.reduceSub, reduceCtorEq, ↓reduceIte, hkl, rA_ren]; (first | refine gsel_go ?_ | skip)); refine .inr (.inr (.inl ⟨?vy1, [72], ?va1, ?vl1, ?vm1, ?cond1, ?cont1⟩)); (case cond1 => ((repeat' apply And.intro) <;> (try ((with_reducible show ToldM _ _ _ _ _ _); exact hW))); (all_goals first | trivial | (simp only [hkl, rA_ren, go_sem, simprocAttr]; done) | (simp; done) | rfl)); (first | refine hK _ _ _ ?_ | (simp only [hkl, rA_ren, go_sem, simprocAttr]; first | refine hK _ _ _ ?_ | refine ⟨rfl, hK _ _ _ ?_⟩)); clear hK K)
      refine walkG ?_
      refine VC.cond (by rfl) (by trivial) (fun hc2 => ?_) (fun hc2 => ?_)
      · have hf : V = false := by
          have : ¬ M.1 ≤ 1000 := by simp at hc2; omega
          rw [hV, ← hR]
          simp [this]
        subst hf
        refine walkG ?_
        refine ⟨by first | exact .inr rfl | exact .inl rfl, ?_⟩; rw [Tryz.results52]; simp only [resOk, resV, go_sem, Int.reduceBEq, Int.reduceLE, Int.reduceLT, Int.reduceNeg, Nat.reduceAdd, Nat.reduceEqDiff, Nat.reduceLT, Nat.reduceLeDiff, Nat.reduceMul, Nat.reduceSub, reduceCtorEq, ↓reduceIte]
        exact .c _
      have hm1 : M.1 ≤ 1000 := by simp at hc2; omega
      have hR2 : rightL s.nodes (s.nodes.drop (i + 1)) (i + 1) M.2 = R := by
        rw [← hR]
        simp [hm1]
      refine walkGF (hkl2) ?_
      refine walkC (hNm) ?_
      refine walkG ?_
      refine VC.cond (by rfl) (by trivial) (fun hc3 => ?_) (fun hc3 => ?_)
      · rw [if_pos hc3] at hnt
        have hr : rA sPV (namesM (s.nodes.take i)) ++ [[.c (.v (.string (str n.name)))]] = rA sPV (namesM (s.nodes.take (i + 1))) := by
          rw [hnt]
          exact rA_one sPV _ n.name
        have hl2 : (namesM (s.nodes.take (i + 1))).length = (namesM (s.nodes.take i)).length + 1 := by rw [hnt]; simp
        refine walkGF (And.intro hnl (And.intro hr hw)) ?_
        refine .next ⟨(i + 1, M.2), by simp only []; omega, w1, w2, hR2⟩ ?_ (by simp only []; omega)
        simp only [rA_len, rA_sc, rA_ren, w1, hl2, Weak, eq_self, used_is, sc_any, sc_c, sc_pp, sc_ref, sc_row, sc_agg, sc_fn, ScL, some_imp, List.forall_mem_map, go_sem, Int.reduceBEq, Int.reduceLE, Int.reduceLT, Int.reduceNeg, Nat.reduceAdd, Nat.reduceEqDiff, Nat.reduceLT, Nat.reduceLeDiff, Nat.reduceMul, Nat.reduceSub, reduceCtorEq, ↓reduceIte]
        exact ⟨cI (by omega), Nat.le_refl _, Nat.le_refl _⟩
      · rw [if_neg (by rw [hc3]; simp), List.append_nil] at hnt
        refine walkGF (hw) ?_
        refine .next ⟨(i + 1, M.2), by simp only []; omega, w1, w2, hR2⟩ ?_ (by simp only []; omega)
        simp only [rA_len, rA_sc, rA_ren, w1, hnt, Weak, eq_self, used_is, sc_any, sc_c, sc_pp, sc_ref, sc_row, sc_agg, sc_fn, ScL, some_imp, List.forall_mem_map, go_sem, Int.reduceBEq, Int.reduceLE, Int.reduceLT, Int.reduceNeg, Nat.reduceAdd, Nat.reduceEqDiff, Nat.reduceLT, Nat.reduceLeDiff, Nat.reduceMul, Nat.reduceSub, reduceCtorEq, ↓reduceIte]
        exact ⟨cI (by omega), Nat.le_refl _, Nat.le_refl _⟩
  · have hie : i = s.nodes.length := by simp at hc; omega
    have hf : R = true := by
      rw [← hR, hie, List.drop_length, rightL]
    subst hf
    rw [Bool.true_and] at hV
    have htk : s.nodes.take i = s.nodes := by rw [hie, List.take_length]
    rw [htk]
    have hnm0 := hnm i
    rw [htk] at hnm0
    have hD := different_told (g := 100) (rule := fullM) (namesM s.nodes) (by omega) fun x hx => full_told x (by have := names_sm hs x hx; omega)
    rw [← hV] at hD
    have hrl : (rA sPV (namesM s.nodes)).length = (namesM s.nodes).length := rA_len _ _
    refine walkGF (hrl) ?_
    (refine AO.step fun K hK => ?_; simp only [go_sem, Int.reduceBEq, Int.reduceLE, Int.reduceLT, Int.reduceNeg, Nat.reduceAdd, Nat.reduceEqDiff, Nat.reduceLT, Nat.reduceLeDiff, Nat.reduceMul, Nat.reduceSub, reduceCtorEq, ↓reduceIte, hrl]; (first | refine gsel_go ?_ | skip))
    refine .inr (.inl ⟨.c (.v (.bool V)), [.c (.sl 1 ((namesM s.nodes).map sPV)), .fn (.func 100) [] []], [120], ⟨by simp [AV.pureL, AV.pureB], rfl, fun k x z h5 h6 => ?_, rfl, hD⟩, hK _ _ _ ?_⟩)
    · match k with
      | 0 =>
        obtain rfl := Option.some.inj h5
        obtain rfl := Option.some.inj h6
        exact View.row (B := ⟨true, 9, 1, rA sPV (namesM s.nodes)⟩) (es := (namesM s.nodes).map sPV) rfl rfl hrl (rA_pv _ _)
      | 1 => obtain rfl := Option.some.inj h5; obtain rfl := Option.some.inj h6; exact .same _
      | k + 2 => simp at h5
    clear hK K
    refine walkG ?_
    refine ⟨by first | exact .inr rfl | exact .inl rfl, ?_⟩; rw [Tryz.results52]; simp only [resOk, resV, go_sem, Int.reduceBEq, Int.reduceLE, Int.reduceLT, Int.reduceNeg, Nat.reduceAdd, Nat.reduceEqDiff, Nat.reduceLT, Nat.reduceLeDiff, Nat.reduceMul, Nat.reduceSub, reduceCtorEq, ↓reduceIte]
    exact .c _
end

theorem right_nodes {s : ST} (h : rightM s = true) : ∀ n ∈ s.nodes, nodeM s.nodes n = true := by
  have key : ∀ (r : List NT) (p : Nat) (kn : List Int), rightL s.nodes r p kn = true → ∀ n ∈ r, nodeM s.nodes n = true := by
    intro r
    induction r with
    | nil => simp
    | cons x xs ih =>
      intro p kn hr n hn
      rw [rightL] at hr
      simp only [Bool.and_eq_true] at hr
      rcases List.mem_cons.1 hn with rfl | hn
      · exact hr.1
      · exact ih _ _ hr.2.2 n hn
  unfold rightM at h
  simp only [Bool.and_eq_true] at h
  exact key _ _ _ h.2.1

def sumX (X : Nat → List UInt8) : Nat → Nat
  | 0 => 0
  | i + 1 => sumX X i + (X i).length
theorem sumX_shift (X : Nat → List UInt8) : ∀ n, sumX X (n + 1) = (X 0).length + sumX (fun i => X (i + 1)) n
  | 0 => by simp [sumX]
  | n + 1 => by
    rw [sumX, sumX_shift X n, sumX]
    omega
theorem putsF_sum : ∀ (ss : List (List UInt8)) (l : List UInt8), (putsF l ss).length = l.length + (ss.map List.length).sum
  | [], l => by simp [putsF]
  | s :: ss, l => by rw [putsF, putsF_sum ss]; simp; omega
theorem comma_len (i : Nat) : (commaM i).length ≤ 1 := by unfold commaM; split <;> simp
theorem fldsF_sum (fs : List FT) (X : Nat → List UInt8) : ∀ i, i ≤ fs.length → (fldsF [] fs X i).length ≤ ((fs.take i).map fun f => 6 * f.name.length + 20).sum + sumX X i
  | 0, _ => by simp [fldsF, sumX]
  | i + 1, h => by
    have ih := fldsF_sum fs X i (by omega)
    have hc := comma_len i
    obtain ⟨f, hf⟩ : ∃ f, fs[i]? = some f := ⟨fs[i], List.getElem?_eq_getElem (by omega)⟩
    have hq := quote_len f.name
    rw [fldsF, putsF_sum, hf, List.take_add_one, hf, sumX]
    simp only [List.map_append, List.sum_append, List.map_cons, List.map_nil, List.sum_cons, List.sum_nil, Option.toList_some, jName, jType, List.length_cons, List.length_nil]
    omega
theorem symsF_sum (ys : List (List UInt8)) : ∀ i, i ≤ ys.length → (symsF [] ys i).length ≤ ((ys.take i).map fun y => 6 * y.length + 3).sum
  | 0, _ => by simp [symsF]
  | i + 1, h => by
    have ih := symsF_sum ys i (by omega)
    have hc := comma_len i
    obtain ⟨f, hf⟩ : ∃ f, ys[i]? = some f := ⟨ys[i], List.getElem?_eq_getElem (by omega)⟩
    have hq := quote_len f
    rw [symsF, putsF_sum, hf, List.take_add_one, hf]
    simp only [List.map_append, List.sum_append, List.map_cons, List.map_nil, List.sum_cons, List.sum_nil, Option.toList_some]
    omega
theorem brsF_sum (X : Nat → List UInt8) : ∀ i, (brsF [] X i).length ≤ i + sumX X i
  | 0 => by simp [brsF, sumX]
  | i + 1 => by
    have ih := brsF_sum X i
    have hc := comma_len i
    rw [brsF, putsF_sum, sumX]
    simp only [List.map_cons, List.map_nil, List.sum_cons, List.sum_nil]
    omega
theorem wordM_len (k : Nat) : (wordM k).length ≤ 20 := by
  by_cases h : k < 15
  · have : ∀ x : Fin 15, (wordM x.val).length ≤ 20 := by decide
    exact this ⟨k, h⟩
  · unfold wordM
    rw [List.getElem?_eq_none (by have : kwords.length = 15 := rfl; omega)]
    simp
theorem mNumb_len {n : Int} (h1 : -9223372036854775808 ≤ n) (h2 : n ≤ 9223372036854775807) : (mNumb n).length ≤ 21 := by
  have hdl := digs_len 19 n.natAbs (by omega)
  unfold mNumb
  split
  · simp; omega
  · simp; omega
def ownW (n : NT) : Nat := 400 + 6 * n.name.length + (n.fields.map fun f => 6 * f.name.length + 20).sum + (n.symbols.map fun y => 6 * y.length + 3).sum + n.branches.length
theorem bodyF_sum (n : NT) (h1 : -9223372036854775808 ≤ n.size) (h2 : n.size ≤ 9223372036854775807) (X : Nat → List UInt8) : (bodyF n X []).length ≤ ownW n + sumX X (kidsN n).length := by
  have hq := quote_len n.name
  have hw9 := quote_len (wordM 9)
  have hw10 := quote_len (wordM 10)
  have hw14 := quote_len (wordM 14)
  have hwk := quote_len (wordM n.kind.toNat)
  have l9 := wordM_len 9
  have l10 := wordM_len 10
  have l14 := wordM_len 14
  have lk := wordM_len n.kind.toNat
  have hm := mNumb_len h1 h2
  unfold bodyF ownW kidsN
  split
  · have e := fldsF_app (putsF [] [jName, mQuote n.name, jType, mQuote (wordM 9), jFlds]) [] n.fields X n.fields.length
    rw [List.append_nil] at e
    have hs := fldsF_sum n.fields X n.fields.length (Nat.le_refl _)
    rw [List.take_length] at hs
    rw [e, putsF_sum, List.length_append, putsF_sum, List.length_map]
    simp only [List.map_cons, List.map_nil, List.sum_cons, List.sum_nil, jName, jType, jFlds, List.length_cons, List.length_nil]
    omega
  split
  · have e := symsF_app (putsF [] [jName, mQuote n.name, jType, mQuote (wordM 10), jSyms]) [] n.symbols n.symbols.length
    rw [List.append_nil] at e
    have hs := symsF_sum n.symbols n.symbols.length (Nat.le_refl _)
    rw [List.take_length] at hs
    rw [e, putsF_sum, List.length_append, putsF_sum]
    simp only [List.map_cons, List.map_nil, List.sum_cons, List.sum_nil, jName, jType, jSyms, List.length_cons, List.length_nil]
    omega
  split
  · rw [putsF_sum]
    simp only [List.map_cons, List.map_nil, List.sum_cons, List.sum_nil, jName, jType, jSize, List.length_cons, List.length_nil]
    omega
  split
  · rename_i h13
    have e := brsF_app (putsF [] [[91]]) [] X n.branches.length
    rw [List.append_nil] at e
    have hs := brsF_sum X n.branches.length
    rw [e, putsF_sum, List.length_append, putsF_sum]
    simp only [List.map_cons, List.map_nil, List.sum_cons, List.sum_nil, List.length_cons, List.length_nil]
    rw [if_neg (show ¬ (n.kind = 11 ∨ n.kind = 12) by omega)]
    omega
  split
  · rename_i h11
    rw [if_pos (.inl h11), putsF_sum]
    simp only [List.map_cons, List.map_nil, List.sum_cons, List.sum_nil, List.length_cons, List.length_nil, jArr, sumX]
    omega
  split
  · rename_i h12
    rw [if_pos (.inr h12), putsF_sum]
    simp only [List.map_cons, List.map_nil, List.sum_cons, List.sum_nil, List.length_cons, List.length_nil, jMap, sumX]
    omega
  · rw [putsF_sum]
    simp only [List.map_cons, List.map_nil, List.sum_cons, List.sum_nil, List.length_nil]
    omega
def nodeW (R : Nat) (n : NT) : Nat := ownW n + R * (kidsN n).length
def cumW (R : Nat) (ns : List NT) (p : Nat) : Nat := ((ns.take p).map (nodeW R)).sum
theorem cumW_next {R : Nat} {ns : List NT} {p : Nat} {n : NT} (h : ns[p]? = some n) : cumW R ns (p + 1) = cumW R ns p + nodeW R n := by
  unfold cumW
  rw [List.take_add_one, h]
  simp
theorem cumW_all (R : Nat) (ns : List NT) (p : Nat) : cumW R ns p ≤ (ns.map (nodeW R)).sum := by
  have : ns.map (nodeW R) = (ns.take p).map (nodeW R) ++ (ns.drop p).map (nodeW R) := by rw [← List.map_append, List.take_append_drop]
  unfold cumW
  rw [this, List.sum_append]
  omega
theorem kidF_zero (f : Form) (k : Int) (ks : List Int) (p : Nat) : kidF f (k :: ks) p 0 = (f k.toNat p).1 := rfl
theorem kidF_next (f : Form) (k : Int) (ks : List Int) (p : Nat) : (fun i => kidF f (k :: ks) p (i + 1)) = kidF f ks (f k.toNat p).2 := by
  funext i
  simp only [kidF, List.getElem?_cons_succ, List.take_succ_cons, placeF]
theorem walkK_sum {R : Nat} {ns : List NT} (hR : ∀ k, (mQuote (nameAt ns k)).length ≤ R) {d : Nat} (hd : ∀ p, (walkM ns d p).1 = true → (formN ns d p p).1.length + cumW R ns p ≤ cumW R ns (walkM ns d p).2) : ∀ (ks : List Int) (p q : Nat), walkK ns (walkM ns d) ks p = (true, q) →
    sumX (kidF (formN ns d) ks p) ks.length + cumW R ns p ≤ cumW R ns q + R * ks.length
  | [], p, q, h => by
    rw [walkK] at h
    obtain rfl := (Prod.mk.inj h).2
    simp [sumX]
  | k :: ks, p, q, h => by
    obtain ⟨h1, h2⟩ := walkK_step (form_place ns d) h
    have ih := walkK_sum hR hd ks _ q h2
    rw [List.length_cons, sumX_shift, kidF_zero, kidF_next, Nat.mul_succ]
    rcases h1.2 with ⟨e, hw⟩ | ⟨hlt, _⟩
    · rw [e] at ih ⊢
      have := hd p hw
      rw [form_place ns d p hw] at ih ⊢
      omega
    · rw [formN_met ns d _ p hlt] at ih ⊢
      have := hR k.toNat
      simp only [] at ih ⊢
      omega
theorem form_len {R : Nat} {ns : List NT} (hR : ∀ k, (mQuote (nameAt ns k)).length ≤ R) (hz : ∀ n ∈ ns, -9223372036854775808 ≤ n.size ∧ n.size ≤ 9223372036854775807) : ∀ (d p : Nat), (walkM ns d p).1 = true → (formN ns d p p).1.length + cumW R ns p ≤ cumW R ns (walkM ns d p).2
  | 0, p, h => by rw [walkM] at h; simp at h
  | d + 1, p, h => by
    rw [walkM] at h ⊢
    cases hn : ns[p]? with
    | none => rw [hn] at h; simp at h
    | some n =>
      rw [hn] at h
      simp only [] at h ⊢
      rw [formN_new ns d p n hn]
      obtain ⟨q, hq⟩ : ∃ q, (walkK ns (walkM ns d) (kidsN n) (p + 1)).2 = q := ⟨_, rfl⟩
      rw [hq]
      have h1 := walkK_sum hR (form_len hR hz d) (kidsN n) (p + 1) q (Prod.ext h hq)
      obtain ⟨z1, z2⟩ := hz n (List.mem_of_getElem? hn)
      have h2 := bodyF_sum n z1 z2 (kidF (formN ns d) (kidsN n) (p + 1))
      rw [cumW_next hn, nodeW] at h1
      simp only [] at h1 ⊢
      omega
theorem form_small {R B : Nat} {ns : List NT} (hR : ∀ k, (mQuote (nameAt ns k)).length ≤ R) (hz : ∀ n ∈ ns, -9223372036854775808 ≤ n.size ∧ n.size ≤ 9223372036854775807) (hB : (ns.map (nodeW R)).sum ≤ B) (hRB : R ≤ B) {d p : Nat} {k : Int} (h : KidOk ns d k p) : (formN ns d k.toNat p).1.length ≤ B := by
  rcases h.2 with ⟨e, hw⟩ | ⟨hlt, _⟩
  · rw [e]
    have := form_len hR hz d p hw
    have := cumW_all R ns (walkM ns d p).2
    omega
  · rw [formN_met ns d _ p hlt]
    exact Nat.le_trans (hR _) hRB
theorem placeF_le {N : Nat} {f : Form} (hf : ∀ k p, p ≤ N → (f k p).2 ≤ N) : ∀ (ks : List Int) (p : Nat), p ≤ N → placeF f ks p ≤ N
  | [], p, h => h
  | k :: ks, p, h => by rw [placeF]; exact placeF_le hf ks _ (hf _ p h)
theorem formN_le (ns : List NT) : ∀ (d k p : Nat), p ≤ ns.length → (formN ns d k p).2 ≤ ns.length
  | 0, k, p, h => by rw [formN]; simp only []; split <;> exact h
  | d + 1, k, p, h => by
    rw [formN]
    simp only []
    split
    · exact h
    · split
      · exact h
      · rename_i hk n hn
        have := (List.getElem?_eq_some_iff.1 hn).1
        exact placeF_le (formN_le ns d) _ _ (by omega)
/-! The bound. -/
theorem textsL_sum : ∀ (l : List (List UInt8)) (n : Nat), textsL n l ≤ 2500 → n + (l.map List.length).sum ≤ textsL n l
  | [], n, h => by simp [textsL]
  | y :: ys, n, h => by
    rw [textsL] at h ⊢
    split at h
    · rename_i h1
      rw [if_pos h1]
      split at h
      · omega
      · rename_i h2
        rw [if_neg h2]
        have := textsL_sum ys _ h
        rw [List.map_cons, List.sum_cons]
        omega
    · omega
theorem textsB_sum {l : List (List UInt8)} (h : textsB l ≤ 2500) : l.length + (l.map List.length).sum ≤ textsB l := by
  unfold textsB at h ⊢
  split at h
  · omega
  · rename_i h1
    rw [if_neg h1]
    exact textsL_sum l _ h
theorem fieldsB_sum : ∀ (l : List FT) (n m : Nat), fieldsB n l = some m → m ≤ 2500 → n + (l.map fun f => f.name.length).sum ≤ m
  | [], n, m, e, h => by rw [fieldsB] at e; obtain rfl := Option.some.inj e; simp
  | f :: fs, n, m, e, h => by
    rw [fieldsB] at e
    split at e
    · split at e
      · simp at e
      · have := fieldsB_sum fs _ m e h
        rw [List.map_cons, List.sum_cons]
        omega
    · obtain rfl := Option.some.inj e
      omega
def bitW (x : NT) : Nat := x.name.length + x.fields.length + x.branches.length + textsB x.symbols + (x.fields.map fun f => f.name.length).sum
theorem nodesB_sum : ∀ (l : List NT) (n : Nat), nodesB n l ≤ 2500 → n + (l.map bitW).sum ≤ nodesB n l
  | [], n, h => by simp [nodesB]
  | x :: xs, n, h => by
    rw [nodesB] at h ⊢
    split at h
    · rename_i h1
      rw [if_pos h1]
      split at h
      · omega
      · rename_i h2
        rw [if_neg h2]
        split at h
        · omega
        · rename_i m hm
          have h3 := nodesB_sum xs m h
          have h4 := fieldsB_sum _ _ m hm (by omega)
          rw [List.map_cons, List.sum_cons, bitW]
          omega
    · omega
theorem sum_lin (a b : Nat) {α : Type} (f : α → Nat) : ∀ l : List α, (l.map fun x => a * f x + b).sum = a * (l.map f).sum + b * l.length
  | [] => by simp
  | x :: xs => by
    rw [List.map_cons, List.sum_cons, List.map_cons, List.sum_cons, sum_lin a b f xs, List.length_cons, Nat.mul_add, Nat.mul_add]
    omega
theorem nodeW_bit {x : NT} (h : textsB x.symbols ≤ 2500) : nodeW 15002 x ≤ 15500 * (1 + bitW x) := by
  have h1 := textsB_sum h
  have h2 : (kidsN x).length ≤ x.fields.length + x.branches.length + 1 := by
    unfold kidsN
    split
    · simp; omega
    · split
      · simp
      · split
        · omega
        · simp
  have e1 := sum_lin 6 20 (fun f : FT => f.name.length) x.fields
  have e2 := sum_lin 6 3 (fun y : List UInt8 => y.length) x.symbols
  unfold nodeW ownW bitW
  rw [e1, e2]
  have e3 : (x.symbols.map fun y => y.length) = x.symbols.map List.length := rfl
  rw [e3]
  omega
theorem sum_le {α : Type} (f g : α → Nat) : ∀ l : List α, (∀ x ∈ l, f x ≤ g x) → (l.map f).sum ≤ (l.map g).sum
  | [], _ => Nat.le_refl _
  | x :: xs, h => by
    rw [List.map_cons, List.sum_cons, List.map_cons, List.sum_cons]
    have := h x (by simp)
    have := sum_le f g xs fun y hy => h y (by simp [hy])
    omega
theorem sum_ge {α : Type} (f : α → Nat) : ∀ l : List α, ∀ x ∈ l, f x ≤ (l.map f).sum
  | [], x, h => by simp at h
  | y :: ys, x, h => by
    rw [List.map_cons, List.sum_cons]
    rcases List.mem_cons.1 h with rfl | h
    · omega
    · have := sum_ge f ys x h
      omega
theorem sbulk_sum {s : ST} (h : sbulk s ≤ 2500) : (s.nodes.map (nodeW 15002)).sum ≤ 38750000 := by
  unfold sbulk at h
  split at h
  · omega
  · have h1 := nodesB_sum s.nodes _ h
    have h2 : (s.nodes.map (nodeW 15002)).sum ≤ (s.nodes.map fun x => 15500 * bitW x + 15500).sum := sum_le _ _ _ fun x hx => by
      have := sum_ge bitW s.nodes x hx
      have hb : bitW x ≤ 2500 := by omega
      have ht : textsB x.symbols ≤ 2500 := by unfold bitW at hb; omega
      have := nodeW_bit ht
      omega
    rw [sum_lin 15500 15500 bitW] at h2
    omega
theorem name_small {s : ST} (h : s.sm 2500) (k : Nat) : (mQuote (nameAt s.nodes k)).length ≤ 15002 := by
  have := quote_len (nameAt s.nodes k)
  have : (nameAt s.nodes k).length ≤ 2500 := by
    unfold nameAt
    split
    · rename_i n hn
      exact (h.2 n (List.mem_of_getElem? hn)).1
    · simp
  omega
theorem right_put {s : ST} (h : s.sm 2500) (hr : rightM s = true) : PutOk s.nodes := fun n hn => by
  have hN := right_nodes hr n hn
  obtain ⟨a1, a2, a3, ⟨a4, a5⟩, a6, a7, a8⟩ := h.2 n hn
  unfold nodeM at hN
  simp only [Bool.and_eq_true, decide_eq_true_eq] at hN
  obtain ⟨⟨k1, k2, hb⟩, _, hK⟩ := hN
  have hsz : 0 ≤ n.size ∧ n.size ≤ 1000 := by
    by_cases h14 : n.kind = 14
    · rw [if_neg (by omega), if_neg (by omega), if_pos h14] at hK
      simpa using hK
    · unfold bareM at hb
      simp only [Bool.and_eq_true, Bool.or_eq_true, beq_iff_eq] at hb
      have := hb.2.2.2.1
      omega
  exact ⟨⟨k1, k2⟩, by omega, ⟨fun f hf => by have := (a8 f hf).1; omega, by omega⟩, ⟨fun y hy => by have := a5 y hy; omega, by omega⟩, by omega, by omega, by omega⟩
section
section
variable {P : Program} {N : Nat} {Q : Exit → ASt → Prop}
theorem VC.nilH {c : Code} {t : Nat → AV} {h : Nat → Option Blkd} {n : Nat} (j o : Nat) (T : TypeId) (z : Nat) (B : Blkd) (e : List AV) (hB : h j = some B) (hrow : B.row = false) (he : B.elems = [e]) (ho : e[o]? = some (.c (.v (.slice none 0 0)))) (hn : Nat.ble (n + 1) L0 = true)
    (hv : VC P N c ⟨t, upd (upd h n (some ⟨true, T, z, []⟩)) j (some ⟨false, B.T, B.z, [e.set o (.row n 0)]⟩), n + 8⟩ Q) : VC P N c ⟨t, h, n⟩ Q := ⟨fun C a W r => by
  obtain ⟨ro, φ, r⟩ := r
  have hn := Nat.le_of_ble_eq_true hn
  have hnu : ¬ Used n n := fun hu => by unfold Used at hu; omega
  have hjn : j ≠ n := fun e => hnu (e ▸ (r.scH j B hB).1)
  have r2 : Rel C (fun j => Used n j ∨ j = n) N t (upd h n (some ⟨true, T, z, []⟩)) ro (upd φ n (.slice none 0 0)) a W :=
    r.block (W' := W) (Keeps.refl _ _) (fun b hb => by simp [blkOf] at hb) (.inr hnu)
      ⟨fun i e he => by simp at he, fun e he => by simp at he, [], ⟨rfl, fun j x v hx => by simp at hx⟩, by rw [if_pos rfl, upd_same]; exact World.ownsRow_nil W 0 T z⟩ (fun e he => by simp at he)
  have r3 := r2.take (used' := Used (n + 8)) fun j hj => by
    unfold Used at hj ⊢
    omega
  have hB3 : upd h n (some ⟨true, T, z, []⟩) j = some B := by rw [upd_ne _ _ hjn]; exact hB
  obtain ⟨b1, b2, vs, b3, b4⟩ := r3.hp j B hB3
  have helen : e.length = B.z := b1 0 e (by rw [he]; rfl)
  have hol := (List.getElem?_eq_some_iff.1 ho).1
  rw [he, List.flatten_cons, List.flatten_nil, List.append_nil] at b3
  have hg : ∀ k B', Used (n + 8) k → upd (upd h n (some ⟨true, T, z, []⟩)) j (some ⟨false, B.T, B.z, [e.set o (.row n 0)]⟩) k = some B' → ∃ B0, upd h n (some ⟨true, T, z, []⟩) k = some B0 ∧ (B0.len < B'.len ∨ (B0.len = B'.len ∧ B0.z = B'.z ∧ upd (upd φ n (.slice none 0 0)) j (upd φ n (.slice none 0 0) j) k = upd φ n (.slice none 0 0) k)) := by
    intro k B' hk hB'
    by_cases hkj : k = j
    · subst hkj
      rw [upd_same] at hB'
      obtain rfl := Option.some.inj hB'
      exact ⟨B, hB3, .inr ⟨by unfold Blkd.len; rw [he]; rfl, rfl, by rw [upd_same]⟩⟩
    · rw [upd_ne _ _ hkj] at hB'
      exact ⟨B', hB', .inr ⟨rfl, rfl, upd_ne _ _ hkj⟩⟩
  have hnew : ∀ (i : Nat) (x : AV), (e.set o (.row n 0))[i]? = some x → (i = o ∧ x = .row n 0) ∨ (i ≠ o ∧ e[i]? = some x) := by
    intro i x hx
    by_cases hio : i = o
    · subst hio
      rw [List.getElem?_set_self hol] at hx
      exact .inl ⟨rfl, (Option.some.inj hx).symm⟩
    · rw [List.getElem?_set_ne (fun e => hio e.symm)] at hx
      exact .inr ⟨hio, hx⟩
  have hrow0 : ∀ v : Value, v = .slice none 0 0 → Rep W ro (upd (upd φ n (.slice none 0 0)) j (upd φ n (.slice none 0 0) j)) (upd (upd h n (some ⟨true, T, z, []⟩)) j (some ⟨false, B.T, B.z, [e.set o (.row n 0)]⟩)) (.row n 0) v := by
    rintro v rfl
    refine .row rfl fun B' hB' _ => ?_
    rw [upd_ne _ _ (fun e => hjn e.symm), upd_same]
  have hscn : Sc (fun k => Used (n + 8) k ∨ k = j) (upd (upd h n (some ⟨true, T, z, []⟩)) j (some ⟨false, B.T, B.z, [e.set o (.row n 0)]⟩)) (.row n 0) := by
    refine .row (.inl (by unfold Used; omega)) fun B' hB' => Nat.zero_le _
  have r4 := r3.block (W' := W) (ℓ := j) (B := ⟨false, B.T, B.z, [e.set o (.row n 0)]⟩) (v := upd φ n (.slice none 0 0) j) (Keeps.refl _ _) (fun b hb => .inr ⟨B, hB3, hb⟩)
    (.inl ⟨B, hB3, .inr ⟨by unfold Blkd.len; rw [he]; rfl, rfl, rfl⟩⟩)
    ⟨fun i e' he' => by
        match i, he' with
        | 0, he' => obtain rfl := Option.some.inj he'; simpa using helen,
      fun e' he' x hx => by
        obtain rfl := List.mem_singleton.1 he'
        obtain ⟨i, hi, hxi⟩ := List.getElem_of_mem hx
        rcases hnew i x (by rw [List.getElem?_eq_getElem hi, hxi]) with ⟨_, rfl⟩ | ⟨_, h5⟩
        · rfl
        · exact b2 e (by rw [he]; exact List.mem_singleton.2 rfl) x (List.mem_of_getElem? h5),
      vs, by
        refine ⟨by simpa using b3.1, fun i x v hx hvv => ?_⟩
        simp only [List.flatten_cons, List.flatten_nil, List.append_nil] at hx
        rcases hnew i x hx with ⟨rfl, rfl⟩ | ⟨_, h5⟩
        · exact hrow0 v (rep_prim (b3.2 i _ v ho hvv))
        · exact (b3.2 i x v h5 hvv).map ((r3.scH j B hB3).2 e (by rw [he]; exact List.mem_singleton.2 rfl) x (List.mem_of_getElem? h5)) (fun _ _ => rfl) (fun _ h => h) hg, by
        rw [if_neg (by simp)]
        rw [if_neg (by simp [hrow])] at b4
        rw [upd_same]
        exact b4⟩
    (fun e' he' x hx => by
      obtain rfl := List.mem_singleton.1 he'
      obtain ⟨i, hi, hxi⟩ := List.getElem_of_mem hx
      rcases hnew i x (by rw [List.getElem?_eq_getElem hi, hxi]) with ⟨_, rfl⟩ | ⟨_, h5⟩
      · exact hscn
      · refine ((r3.scH j B hB3).2 e (by rw [he]; exact List.mem_singleton.2 rfl) x (List.mem_of_getElem? h5)).map (fun k hk => .inl hk) fun k B' hk hB' => ?_
        obtain ⟨B0, h6, h7⟩ := hg k B' hk hB'
        exact ⟨B0, h6, by rcases h7 with h7 | h7 <;> omega⟩)
  have r5 := r4.take (used' := Used (n + 8)) fun k hk => by
    rcases hk with hk | rfl
    · exact hk
    · have := (r.scH k B hB).1
      unfold Used at this ⊢
      simp only [] at this
      omega
  exact hv.out C a W ⟨ro, _, r5⟩⟩
end
end
section
attribute [local go_sem] opx opE ev okx gcond bnd okO AV.get AV.okb cAV upd_at putd_some putd_none wrs_nil wrs_cons look_nil look_cons st argT_at bpick_and bpick_or bpick_true bpick_false binV binI binS binVOk binOk isShift binSOk unV unVOk loadV loadP cellsA zeroA Blkd.len setE grown moreA moreR moreOk eqRes pv fillA fillE putSeg AV.cellish AV.pureL AV.pureB lentL_is ex_some AV.ren AV.renL renL_c Blkd.ren rho wrM renN lentOk rhoE keepM endOk tyA_2 tyA_3 tyA_4 tyA_5 tyA_6 tyA_7 tyA_8 tyA_9 tyA_10 tyA_11 tyA_12 tyA_13 tyA_14 tyA_15 tyA_16 tyA_17 tyA_18 tyA_19 tyA_21 tyA_22 tyA_23 tyA_24 tyA_29 tyA_30 tyA_31 tyA_32 tyA_33 tyA_34 tyA_35 tyA_36 tyA_37 tyA_38 tyA_39 tyA_40 tyA_41 tyA_42 tyA_43 tyA_48 tyA_89 tyA_93 tyA_107 tyA_108 tyA_109 tyA_113 tyA_114 tyA_115 tyA_116 tyA_117 tyA_119 tyA_120 tyA_121 tyA_122 tyA_131 tyA_134 tyA_135 tyA_136 tyA_137 tyA_138 tyA_154 tyA_156 tyA_157 tyA_158 tyA_159 tyA_170 tyA_180 tyA_181 tyA_182 tyA_196 tyA_202 tyA_208 tyA_209 tyA_210 tyA_211 tyA_212 tyA_213 tyA_229 tyA_230 tyA_231 tyA_241 tyA_264 tyA_268 tyA_293 tyA_294 tyA_295 tyA_311 tyA_313 tyA_321 tyA_326 tyA_334 tyA_338 tyA_340 tyA_343 tyA_344 tyA_345 tyA_346 tyA_347 tyA_348 tyA_349 tyA_351 tyA_352 Option.map_some Option.map_none Option.getD_some Option.getD_none Option.bind_some Option.bind_none List.getElem?_cons_zero List.getElem?_cons_succ List.getElem?_nil List.getElem?_toArray List.length_cons List.length_nil List.length_map List.forall_mem_map List.map_cons List.map_nil List.drop_zero List.drop_succ_cons List.drop_nil List.take_zero List.take_succ_cons List.take_nil List.mem_cons List.not_mem_nil or_false forall_eq_or_imp forall_eq List.set_cons_zero List.set_cons_succ List.cons_append List.nil_append List.append_nil List.foldl_cons List.foldl_nil List.replicate_succ List.replicate_zero List.all_cons List.all_nil if_true if_false Bool.false_eq_true ne_eq not_false_eq_true not_true_eq_false true_and and_true and_self true_implies imp_self implies_true forall_const beq_self_eq_true Bool.and_true Bool.true_and Bool.and_false Bool.false_and Bool.or_true Bool.true_or Bool.or_false Bool.false_or Bool.not_true Bool.not_false Bool.not_eq_eq_eq_not intKindOf Value.oneCell' Int.toNat_natCast beq_true beq_false Bool.not_eq_true false_implies false_or true_or or_true Nat.zero_add Nat.add_zero decide_true decide_false Int.cast_ofNat_Int Int.toNat_zero Int.toNat_one eq_self

noncomputable def formM (s : ST) : List UInt8 × Int :=
  if rightM s = true then (if 20000 < (formN s.nodes 33 0 0).1.length then ([], 3) else ((formN s.nodes 33 0 0).1, 0)) else ([], 2)
set_option maxRecDepth 100000 in
set_option maxHeartbeats 1600000 in
theorem cform_told (s : ST) (hs : s.sm 1000000) (hput : rightM s = true → PutOk s.nodes) (hlen : rightM s = true → (formN s.nodes 33 0 0).1.length ≤ 500000000) :
    Told Tryz.prog 72 [s.av] (.tup [.c (.sl 1 (bytePV (formM s).1)), .c (.v (.int .i64 (formM s).2))]) := by
  have hR := sRight_told s hs
  unfold formM
  cases hr : rightM s with
  | false =>
    rw [hr] at hR
    rw [if_neg (by decide)]
    rw [ST.av_eq] at hR ⊢
    refine VC.told ent_72 Tryz.func72 rfl Tryz.ntmps72 (by simp) (by first | rfl | simp [AV.pureB, AV.pureL, pureL_c, pures]) (by first | rfl | simp [AV.pureB, AV.pureL, pureL_c, pures]) fun hb => ?_
    clear hb
    refine walkGF (And.intro @len_scells (And.intro @take_scells @take_scellsC)) ?_
    refine walkCF (@pureL_c) (hR) ?_
    refine walkB ?_
    refine ⟨by first | exact .inr rfl | exact .inl rfl, ?_⟩; rw [Tryz.results72]; simp only [resOk, resV, go_sem, Int.reduceBEq, Int.reduceLE, Int.reduceLT, Int.reduceNeg, Nat.reduceAdd, Nat.reduceEqDiff, Nat.reduceLT, Nat.reduceLeDiff, Nat.reduceMul, Nat.reduceSub, reduceCtorEq, ↓reduceIte]
    exact ⟨.nil 1, .c _⟩
  | true =>
  rw [hr] at hR
  rw [if_pos rfl]
  have hO := right_ordered hr
  unfold orderedM at hO
  simp only [Bool.and_eq_true, decide_eq_true_eq] at hO
  obtain ⟨_, hns, hroot, hw, _⟩ := hO
  have hN := cnode_told s.nodes s.root (hput hr) hs.1 33 s.root 0 ⟨by omega, .inl ⟨by rw [hroot]; rfl, hw⟩⟩ [] _ rfl (by rw [hroot]; exact hlen hr)
  rw [show s.root.toNat = 0 by rw [hroot]; rfl, List.nil_append] at hN
  have hM0 := metL_len s.nodes 0
  have hM1 := metL_len s.nodes (formN s.nodes 33 0 0).2
  have hl5 := hlen hr
  generalize (formN s.nodes 33 0 0).1 = o at hN hl5 ⊢
  generalize metL s.nodes (formN s.nodes 33 0 0).2 = M1 at hN hM1
  have hmk : List.replicate s.nodes.length [AV.c (.v (.bool false))] = rA blP (metL s.nodes 0) := by
    have : metL s.nodes 0 = List.replicate s.nodes.length false := by
      unfold metL
      apply List.ext_getElem
      · simp
      · intro i h1 h2
        simp
    rw [this]
    simp [rA, blP]
  generalize metL s.nodes 0 = M0 at hN hM0 hmk
  simp only [fB, mB, bB, bA_nil, List.length_nil] at hN
  have hN : ToldM Tryz.prog _ _ _ _ _ := hN
  rw [ST.av_eq] at hR ⊢
  rw [scells_mk] at hR ⊢
  by_cases hb3 : 20000 < o.length
  · rw [if_pos hb3]
    have e3 : decide ((o.length : Int) > 20000) = true := by simp; omega
    refine VC.told ent_72 Tryz.func72 rfl Tryz.ntmps72 (by simp) (by first | rfl | simp [AV.pureB, AV.pureL, pureL_c, pures]) (by first | rfl | simp [AV.pureB, AV.pureL, pureL_c, pures]) fun hb => ?_
    clear hb
    refine walkG ?_
    refine walkCF (@pureL_c) (hR) ?_
    refine walkG ?_
    refine VC.condF (by rfl) (by trivial) ?_
    refine VC.skip ?_; refine SQ.normal ?_
    (refine VC.seq ?_; (first | refine VC.region (by rfl) (by rfl) ?_ | refine VC.draw mixP (by rfl) (by rfl) ?_); (repeat (refine AO.step fun K hK => ?_; simp only [hmk, go_sem, Int.reduceBEq, Int.reduceLE, Int.reduceLT, Int.reduceNeg, Nat.reduceAdd, Nat.reduceEqDiff, Nat.reduceLT, Nat.reduceLeDiff, Nat.reduceMul, Nat.reduceSub, reduceCtorEq, ↓reduceIte]; (first | refine gsel_skip ?_ | refine gsel_go ?_ | skip); (first | refine hK _ _ _ ?_ | refine ⟨by first | omega | exact ⟨_, rfl, rfl⟩ | exact fun _ => ⟨_, rfl, rfl⟩ | (intro h; simp only [hmk, h, true_and]; omega) | (clear hK; intro h; simp_all <;> omega), hK _ _ _ ?_⟩); clear hK K)); refine AO.nil ?_; first | refine SQ.normal ?_ | refine ⟨okd_of (by kernel_rfl), SQ.normal ?_⟩)
    refine VC.nilH 96 3 5 1 ⟨false, 159, 4, [[.c (.sl 10 (s.nodes.map NT.cells)), .c (.v (.int .i64 s.root)), .row 80 s.nodes.length, .c (.v (.slice none 0 0))]]⟩ [.c (.sl 10 (s.nodes.map NT.cells)), .c (.v (.int .i64 s.root)), .row 80 s.nodes.length, .c (.v (.slice none 0 0))] rfl rfl rfl rfl (by rfl) ?_
    refine walkG ?_
    ((refine AO.step fun K hK => ?_; simp only [go_sem, Int.reduceBEq, Int.reduceLE, Int.reduceLT, Int.reduceNeg, Nat.reduceAdd, Nat.reduceEqDiff, Nat.reduceLT, Nat.reduceLeDiff, Nat.reduceMul, Nat.reduceSub, reduceCtorEq, ↓reduceIte, bA_nil, bA_len, bA_ren, rA_len, rA_ren, hM0, hM1]; (first | refine gsel_go ?_ | skip)); refine .inr (.inr (.inl ⟨?vy1, [96, 80, 112], ?va1, ?vl1, ?vm1, ?cond1, ?cont1⟩)); (case cond1 => ((repeat' apply And.intro) <;> (try ((with_reducible show ToldM _ _ _ _ _ _); exact hN))); (all_goals first | trivial | (simp only [bA_nil, bA_len, bA_ren, rA_len, rA_ren, hM0, hM1, go_sem, simprocAttr]; done) | (simp; done) | rfl)); (first | refine hK _ _ _ ?_ | (simp only [bA_nil, bA_len, bA_ren, rA_len, rA_ren, hM0, hM1, go_sem, simprocAttr]; first | refine hK _ _ _ ?_ | refine ⟨rfl, hK _ _ _ ?_⟩)); clear hK K)
    refine walkBF (And.intro @bA_len (And.intro @bA_ren (And.intro @rA_len (And.intro @rA_ren (And.intro hM0 (And.intro hM1 e3)))))) ?_
    refine ⟨by first | exact .inr rfl | exact .inl rfl, ?_⟩; rw [Tryz.results72]; simp only [resOk, resV, go_sem, Int.reduceBEq, Int.reduceLE, Int.reduceLT, Int.reduceNeg, Nat.reduceAdd, Nat.reduceEqDiff, Nat.reduceLT, Nat.reduceLeDiff, Nat.reduceMul, Nat.reduceSub, reduceCtorEq, ↓reduceIte]
    exact ⟨.nil 1, .c _⟩
  rw [if_neg hb3]
  have e3 : decide ((o.length : Int) > 20000) = false := by simp; omega
  refine VC.told ent_72 Tryz.func72 rfl Tryz.ntmps72 (by simp) (by first | rfl | simp [AV.pureB, AV.pureL, pureL_c, pures]) (by first | rfl | simp [AV.pureB, AV.pureL, pureL_c, pures]) fun hb => ?_
  clear hb
  refine walkG ?_
  refine walkCF (@pureL_c) (hR) ?_
  refine walkG ?_
  refine VC.condF (by rfl) (by trivial) ?_
  refine VC.skip ?_; refine SQ.normal ?_
  (refine VC.seq ?_; (first | refine VC.region (by rfl) (by rfl) ?_ | refine VC.draw mixP (by rfl) (by rfl) ?_); (repeat (refine AO.step fun K hK => ?_; simp only [hmk, go_sem, Int.reduceBEq, Int.reduceLE, Int.reduceLT, Int.reduceNeg, Nat.reduceAdd, Nat.reduceEqDiff, Nat.reduceLT, Nat.reduceLeDiff, Nat.reduceMul, Nat.reduceSub, reduceCtorEq, ↓reduceIte]; (first | refine gsel_skip ?_ | refine gsel_go ?_ | skip); (first | refine hK _ _ _ ?_ | refine ⟨by first | omega | exact ⟨_, rfl, rfl⟩ | exact fun _ => ⟨_, rfl, rfl⟩ | (intro h; simp only [hmk, h, true_and]; omega) | (clear hK; intro h; simp_all <;> omega), hK _ _ _ ?_⟩); clear hK K)); refine AO.nil ?_; first | refine SQ.normal ?_ | refine ⟨okd_of (by kernel_rfl), SQ.normal ?_⟩)
  refine VC.nilH 96 3 5 1 ⟨false, 159, 4, [[.c (.sl 10 (s.nodes.map NT.cells)), .c (.v (.int .i64 s.root)), .row 80 s.nodes.length, .c (.v (.slice none 0 0))]]⟩ [.c (.sl 10 (s.nodes.map NT.cells)), .c (.v (.int .i64 s.root)), .row 80 s.nodes.length, .c (.v (.slice none 0 0))] rfl rfl rfl rfl (by rfl) ?_
  refine walkG ?_
  ((refine AO.step fun K hK => ?_; simp only [go_sem, Int.reduceBEq, Int.reduceLE, Int.reduceLT, Int.reduceNeg, Nat.reduceAdd, Nat.reduceEqDiff, Nat.reduceLT, Nat.reduceLeDiff, Nat.reduceMul, Nat.reduceSub, reduceCtorEq, ↓reduceIte, bA_nil, bA_len, bA_ren, rA_len, rA_ren, hM0, hM1]; (first | refine gsel_go ?_ | skip)); refine .inr (.inr (.inl ⟨?vy2, [96, 80, 112], ?va2, ?vl2, ?vm2, ?cond2, ?cont2⟩)); (case cond2 => ((repeat' apply And.intro) <;> (try ((with_reducible show ToldM _ _ _ _ _ _); exact hN))); (all_goals first | trivial | (simp only [bA_nil, bA_len, bA_ren, rA_len, rA_ren, hM0, hM1, go_sem, simprocAttr]; done) | (simp; done) | rfl)); (first | refine hK _ _ _ ?_ | (simp only [bA_nil, bA_len, bA_ren, rA_len, rA_ren, hM0, hM1, go_sem, simprocAttr]; first | refine hK _ _ _ ?_ | refine ⟨rfl, hK _ _ _ ?_⟩)); clear hK K)
  refine walkBF (And.intro @bA_len (And.intro @bA_ren (And.intro @rA_len (And.intro @rA_ren (And.intro hM0 (And.intro hM1 e3)))))) ?_
  refine ⟨by first | exact .inr rfl | exact .inl rfl, ?_⟩; rw [Tryz.results72]; simp only [resOk, resV, go_sem, Int.reduceBEq, Int.reduceLE, Int.reduceLT, Int.reduceNeg, Nat.reduceAdd, Nat.reduceEqDiff, Nat.reduceLT, Nat.reduceLeDiff, Nat.reduceMul, Nat.reduceSub, reduceCtorEq, ↓reduceIte]
  exact ⟨frz_rA (f := fun b : UInt8 => [PV.v (.int .u8 (b.toNat : Int))]) (l := o) (T := 5) (by rw [bA_ren]; rfl) rfl rfl (by simp), .c _⟩

noncomputable def ceq {α : Type} (a b : α) : Bool := @decide (a = b) (Classical.propDecidable _)
theorem ceq_iff {α : Type} (a b : α) : ceq a b = true ↔ a = b := by simp [ceq]
theorem ceq_false {α : Type} (a b : α) : ceq a b = false ↔ a ≠ b := by simp [ceq]
theorem ceq_self {α : Type} (a : α) : ceq a a = true := (ceq_iff a a).2 rfl

theorem ceq_field (a b : FT) : ceq a b = ((((a.name == b.name) && (a.aliases == b.aliases)) && (a.type == b.type)) && (a.has == b.has) && jeq a.dflt b.dflt) := by
  rw [Bool.eq_iff_iff]
  simp only [ceq_iff, Bool.and_eq_true, beq_iff_eq, jeq_iff]
  constructor
  · rintro rfl
    exact ⟨⟨⟨⟨rfl, rfl⟩, rfl⟩, rfl⟩, rfl⟩
  · rintro ⟨⟨⟨⟨h1, h2⟩, h3⟩, h4⟩, h5⟩
    cases a
    cases b
    simp_all
theorem ceq_node (a b : NT) : ceq a b = ((((((((((a.kind == b.kind) && (a.name == b.name)) && (a.aliases == b.aliases)) && ceq a.fields b.fields) && (a.symbols == b.symbols)) && (a.has == b.has)) && (a.dflt == b.dflt)) && (a.size == b.size)) && (a.items == b.items)) && (a.branches == b.branches)) := by
  rw [Bool.eq_iff_iff]
  simp only [ceq_iff, Bool.and_eq_true, beq_iff_eq]
  constructor
  · rintro rfl
    simp
  · rintro ⟨⟨⟨⟨⟨⟨⟨⟨⟨h1, h2⟩, h3⟩, h4⟩, h5⟩, h6⟩, h7⟩, h8⟩, h9⟩, h10⟩
    cases a
    cases b
    simp_all

set_option maxRecDepth 100000 in
set_option maxHeartbeats 800000 in
theorem rsame_told : ∀ (m : Nat) (a b : JT), SizeOf.sizeOf a ≤ m → Told Tryz.prog 44 [a.av, b.av] (.c (.v (.bool (jeq a b)))) := by
  intro m
  induction m with
  | zero => intro a b ha; cases a; simp at ha
  | succ m ih =>
  intro a b ha
  cases a with
  | mk k n s ks xs =>
  cases b with
  | mk k' n' s' ks' xs' =>
  refine VC.told ent_44 Tryz.func44 rfl Tryz.ntmps44 (by simp) rfl rfl fun hb => ?_
  simp only [JT.av, cells_mk, List.map_cons, List.map_nil, abd_agg, abd_c, pbd_v, pbd_sl, List.mem_cons, List.not_mem_nil, or_false, forall_eq_or_imp, forall_eq, true_and, List.length_map] at hb ⊢
  have hx1 := hb.1.1.1
  have hk1 := hb.1.2.1
  clear hb
  refine walkGF (@str_toList) ?_
  refine VC.cond (by rfl) (by trivial) (fun hc => ?_) (fun hc => ?_)
  · have hne : jeq (.mk k n s ks xs) (.mk k' n' s' ks' xs') = false := by
      rw [jeq_false]
      intro e
      injection e with e1 e2 e3 e4 e5
      subst e1 e2 e3 e4 e5
      simp at hc
    refine walkG ?_
    refine ⟨.inr rfl, ?_⟩
    rw [Tryz.results44, hne]
    simp only [resOk, resV, go_sem, Int.reduceBEq, Int.reduceLE, Int.reduceLT, Int.reduceNeg, Nat.reduceAdd, Nat.reduceEqDiff, Nat.reduceLT, Nat.reduceLeDiff, Nat.reduceMul, Nat.reduceSub, reduceCtorEq, ↓reduceIte]
    exact .c _
  · simp only [Bool.or_eq_false_iff, bne_eq_false_iff_eq, Bool.not_eq_false', beq_iff_eq] at hc
    obtain ⟨⟨⟨⟨rfl, rfl⟩, rfl⟩, hkl⟩, hxl⟩ := hc
    have hkl : ks.length = ks'.length := by omega
    have hxl : xs.length = xs'.length := by omega
    refine walkG ?_
    refine VC.loop (ι := {i : Nat // i ≤ ks.length ∧ ks.take i = ks'.take i}) (fun i => [(2, .ref 0 1 0 0), (3, .ref 8 1 0 0), (5, .c (.v (.int .i64 i.1)))])
      (fun _ => [(0, ⟨false, 36, 5, [(JT.mk k n s ks xs).cells.map .c]⟩), (8, ⟨false, 36, 5, [(JT.mk k n s ks' xs').cells.map .c]⟩)]) 16 (fun i => ks.length - i.1) ⟨0, Nat.zero_le _, rfl⟩ ?_ ?_
    · simp only [cells_mk, Weak, eq_self, used_is, sc_any, sc_c, sc_pp, sc_ref, sc_row, sc_agg, sc_fn, ScL, some_imp, List.forall_mem_map, go_sem, Int.reduceBEq, Int.reduceLE, Int.reduceLT, Int.reduceNeg, Nat.reduceAdd, Nat.reduceEqDiff, Nat.reduceLT, Nat.reduceLeDiff, Nat.reduceMul, Nat.reduceSub, reduceCtorEq, ↓reduceIte]
      all_goals rfl
    rintro ⟨i, hi, ht⟩
    refine walkGF (@cells_mk) ?_
    refine VC.cond (by rfl) (by trivial) (fun hc => ?_) (fun hc => ?_)
    · simp only [decide_eq_true_eq] at hc
      obtain ⟨x, hx⟩ : ∃ x, ks[i]? = some x := ⟨ks[i], List.getElem?_eq_getElem (by omega)⟩
      obtain ⟨y, hy⟩ : ∃ y, ks'[i]? = some y := ⟨ks'[i], List.getElem?_eq_getElem (by omega)⟩
      have hw : IntKind.i64.wrap ((i : Int) + 1) = (i : Int) + 1 := wrap64_id (by omega) (by omega)
      have htn := taken_next hx hy ht
      (repeat (first | refine pass ?_ | refine VC.region (by rfl) (by rfl) ?_ | (refine AO.step fun K hK => ?_; simp only [cells_mk, List.getElem?_map, hx, hy, sPV, str_toList, go_sem, Int.reduceBEq, Int.reduceLE, Int.reduceLT, Int.reduceNeg, Nat.reduceAdd, Nat.reduceEqDiff, Nat.reduceLT, Nat.reduceLeDiff, Nat.reduceMul, Nat.reduceSub, reduceCtorEq, ↓reduceIte]; (first | refine gsel_skip ?_ | refine gsel_go ?_ | skip); (first | refine hK _ _ _ ?_ | refine ⟨by first | omega | exact ⟨_, rfl, rfl⟩ | exact fun _ => ⟨_, rfl, rfl⟩ | (intro h; simp only [cells_mk, List.getElem?_map, hx, hy, sPV, str_toList, h, true_and]; omega) | (clear hK; intro h; simp_all <;> omega), hK _ _ _ ?_⟩); clear hK K) | refine VC.draw mixP (by rfl) (by rfl) ?_ | refine ⟨okd_of (by kernel_rfl), ?_⟩ | refine BQ.other (by decide) ?_ | refine VC.seq ?_ | refine AO.nil ?_ | refine VC.block ?_))
      refine VC.cond (by rfl) (by trivial) (fun hc2 => ?_) (fun hc2 => ?_)
      · have hne : jeq (.mk k n s ks xs) (.mk k n s ks' xs') = false := by
          rw [jeq_false]
          intro e
          injection e with e1 e2 e3 e4 e5
          subst e4
          rw [hx] at hy
          obtain rfl := Option.some.inj hy
          simp at hc2
        refine walkG ?_
        refine ⟨.inr rfl, ?_⟩
        rw [Tryz.results44, hne]
        simp only [resOk, resV, go_sem, Int.reduceBEq, Int.reduceLE, Int.reduceLT, Int.reduceNeg, Nat.reduceAdd, Nat.reduceEqDiff, Nat.reduceLT, Nat.reduceLeDiff, Nat.reduceMul, Nat.reduceSub, reduceCtorEq, ↓reduceIte]
        exact .c _
      · have hxy : x = y := by simpa using hc2
        refine walkGF (hw) ?_
        refine .next ⟨i + 1, by omega, htn.2 hxy⟩ ?_ (by simp only []; omega)
        simp only [cells_mk, Weak, eq_self, used_is, sc_any, sc_c, sc_pp, sc_ref, sc_row, sc_agg, sc_fn, ScL, some_imp, List.forall_mem_map, go_sem, Int.reduceBEq, Int.reduceLE, Int.reduceLT, Int.reduceNeg, Nat.reduceAdd, Nat.reduceEqDiff, Nat.reduceLT, Nat.reduceLeDiff, Nat.reduceMul, Nat.reduceSub, reduceCtorEq, ↓reduceIte]
        exact cI (by omega)
    · simp only [decide_eq_false_iff_not] at hc
      obtain rfl : i = ks.length := by omega
      have hke : ks = ks' := by
        rw [List.take_length, hkl, List.take_length] at ht
        exact ht
      subst hke
      refine walkG ?_
      refine VC.loop (ι := {i : Nat // i ≤ xs.length ∧ xs.take i = xs'.take i}) (fun i => [(2, .ref 0 1 0 0), (3, .ref 8 1 0 0), (6, .c (.v (.int .i64 i.1)))])
        (fun _ => [(0, ⟨false, 36, 5, [(JT.mk k n s ks xs).cells.map .c]⟩), (8, ⟨false, 36, 5, [(JT.mk k n s ks xs').cells.map .c]⟩)]) 16 (fun i => xs.length - i.1) ⟨0, Nat.zero_le _, rfl⟩ ?_ ?_
      · simp only [cells_mk, Weak, eq_self, used_is, sc_any, sc_c, sc_pp, sc_ref, sc_row, sc_agg, sc_fn, ScL, some_imp, List.forall_mem_map, go_sem, Int.reduceBEq, Int.reduceLE, Int.reduceLT, Int.reduceNeg, Nat.reduceAdd, Nat.reduceEqDiff, Nat.reduceLT, Nat.reduceLeDiff, Nat.reduceMul, Nat.reduceSub, reduceCtorEq, ↓reduceIte]
        all_goals rfl
      rintro ⟨i, hi, ht⟩
      refine walkGF (@cells_mk) ?_
      refine VC.cond (by rfl) (by trivial) (fun hc => ?_) (fun hc => ?_)
      · simp only [decide_eq_true_eq] at hc
        obtain ⟨x, hx⟩ : ∃ x, xs[i]? = some x := ⟨xs[i], List.getElem?_eq_getElem (by omega)⟩
        obtain ⟨y, hy⟩ : ∃ y, xs'[i]? = some y := ⟨xs'[i], List.getElem?_eq_getElem (by omega)⟩
        have hw : IntKind.i64.wrap ((i : Int) + 1) = (i : Int) + 1 := wrap64_id (by omega) (by omega)
        have hcl := ih x y (by
          have h1 := List.sizeOf_lt_of_mem (List.mem_of_getElem? hx)
          simp at ha
          omega)
        (repeat (first | refine pass ?_ | refine VC.region (by rfl) (by rfl) ?_ | (refine AO.step fun K hK => ?_; simp only [cells_mk, List.getElem?_map, hx, hy, len_cells, take_cells, take_cellsC, go_sem, Int.reduceBEq, Int.reduceLE, Int.reduceLT, Int.reduceNeg, Nat.reduceAdd, Nat.reduceEqDiff, Nat.reduceLT, Nat.reduceLeDiff, Nat.reduceMul, Nat.reduceSub, reduceCtorEq, ↓reduceIte]; (first | refine gsel_skip ?_ | refine gsel_go ?_ | skip); (first | refine hK _ _ _ ?_ | refine ⟨by first | omega | exact ⟨_, rfl, rfl⟩ | exact fun _ => ⟨_, rfl, rfl⟩ | (intro h; simp only [cells_mk, List.getElem?_map, hx, hy, len_cells, take_cells, take_cellsC, h, true_and]; omega) | (clear hK; intro h; simp_all <;> omega), hK _ _ _ ?_⟩); clear hK K) | refine VC.draw mixP (by rfl) (by rfl) ?_ | refine ⟨okd_of (by kernel_rfl), ?_⟩ | refine BQ.other (by decide) ?_ | refine VC.seq ?_ | refine AO.nil ?_ | refine VC.block ?_))
        (refine AO.step fun K hK => ?_; simp only [go_sem, Int.reduceBEq, Int.reduceLE, Int.reduceLT, Int.reduceNeg, Nat.reduceAdd, Nat.reduceEqDiff, Nat.reduceLT, Nat.reduceLeDiff, Nat.reduceMul, Nat.reduceSub, reduceCtorEq, ↓reduceIte, pureL_c]; (first | refine gsel_go ?_ | skip))
        refine .inl ⟨_, hcl, hK _ _ _ ?_⟩
        clear hK K
        refine walkG ?_
        refine VC.cond (by rfl) (by trivial) (fun hc2 => ?_) (fun hc2 => ?_)
        · have hne : jeq (.mk k n s ks xs) (.mk k n s ks xs') = false := by
            rw [jeq_false]
            intro e
            injection e with e1 e2 e3 e4 e5
            subst e5
            rw [hx] at hy
            obtain rfl := Option.some.inj hy
            rw [jeq_self] at hc2
            simp at hc2
          refine walkG ?_
          refine ⟨.inr rfl, ?_⟩
          rw [Tryz.results44, hne]
          simp only [resOk, resV, go_sem, Int.reduceBEq, Int.reduceLE, Int.reduceLT, Int.reduceNeg, Nat.reduceAdd, Nat.reduceEqDiff, Nat.reduceLT, Nat.reduceLeDiff, Nat.reduceMul, Nat.reduceSub, reduceCtorEq, ↓reduceIte]
          exact .c _
        · have hxy : x = y := by
            rw [← jeq_iff]
            simpa using hc2
          refine walkGF (hw) ?_
          refine .next ⟨i + 1, by omega, ?_⟩ ?_ (by simp only []; omega)
          · rw [List.take_add_one, List.take_add_one, hx, hy, ht, hxy]
          simp only [cells_mk, Weak, eq_self, used_is, sc_any, sc_c, sc_pp, sc_ref, sc_row, sc_agg, sc_fn, ScL, some_imp, List.forall_mem_map, go_sem, Int.reduceBEq, Int.reduceLE, Int.reduceLT, Int.reduceNeg, Nat.reduceAdd, Nat.reduceEqDiff, Nat.reduceLT, Nat.reduceLeDiff, Nat.reduceMul, Nat.reduceSub, reduceCtorEq, ↓reduceIte]
          exact cI (by omega)
      · simp only [decide_eq_false_iff_not] at hc
        obtain rfl : i = xs.length := by omega
        have heq : xs = xs' := by
          rw [List.take_length, hxl, List.take_length] at ht
          exact ht
        subst heq
        refine walkG ?_
        refine ⟨.inr rfl, ?_⟩
        rw [Tryz.results44, jeq_self]
        simp only [resOk, resV, go_sem, Int.reduceBEq, Int.reduceLE, Int.reduceLT, Int.reduceNeg, Nat.reduceAdd, Nat.reduceEqDiff, Nat.reduceLT, Nat.reduceLeDiff, Nat.reduceMul, Nat.reduceSub, reduceCtorEq, ↓reduceIte]
        exact .c _

theorem take_nexty {α : Type} {ks ls : List α} {i : Nat} {x y : α} (hx : ks[i]? = some x) (hy : ls[i]? = some y) (h : ks.take i = ls.take i) (e : x = y) : ks.take (i + 1) = ls.take (i + 1) := by
  rw [List.take_add_one, List.take_add_one, hx, hy, h, e]
theorem ne_at {α : Type} {ks ls : List α} {i : Nat} {x y : α} (hx : ks[i]? = some x) (hy : ls[i]? = some y) (h : x ≠ y) : ks ≠ ls := by
  rintro rfl
  rw [hx] at hy
  exact h (Option.some.inj hy)
theorem take_end {α : Type} {ks ls : List α} {i : Nat} (h : ks.take i = ls.take i) (h1 : i = ks.length) (h2 : ks.length = ls.length) : ks = ls := by
  rw [h1, List.take_length, h2, List.take_length] at h
  exact h
set_option maxRecDepth 100000 in
set_option maxHeartbeats 800000 in
theorem rtexts_told (ks ls : List (List UInt8)) : Told Tryz.prog 68 [.c (.sl 1 (ks.map sPV)), .c (.sl 1 (ls.map sPV))] (.c (.v (.bool (ks == ls)))) := by
  obtain ⟨V, hV⟩ : ∃ V, V = (ks == ls) := ⟨_, rfl⟩
  rw [← hV]
  refine VC.told ent_68 Tryz.func68 rfl Tryz.ntmps68 (by simp) (by first | rfl | simp [AV.pureB, AV.pureL, pureL_c, pures]) (by first | rfl | simp [AV.pureB, AV.pureL, pureL_c, pures]) fun hb => ?_
  simp only [abd_c, pbd_sl, List.mem_cons, List.not_mem_nil, or_false, forall_eq_or_imp, forall_eq, true_and, List.length_map] at hb
  have hkb := hb.1.1
  clear hb
  refine walkG ?_
  refine VC.cond (by rfl) (by trivial) (fun hc => ?_) (fun hc => ?_)
  · have hf : V = false := by
      rw [hV, beq_eq_false_iff_ne]
      rintro rfl
      simp at hc
    subst hf
    refine walkG ?_
    refine ⟨by first | exact .inr rfl | exact .inl rfl, ?_⟩; rw [Tryz.results68]; simp only [resOk, resV, go_sem, Int.reduceBEq, Int.reduceLE, Int.reduceLT, Int.reduceNeg, Nat.reduceAdd, Nat.reduceEqDiff, Nat.reduceLT, Nat.reduceLeDiff, Nat.reduceMul, Nat.reduceSub, reduceCtorEq, ↓reduceIte]
    exact .c _
  have hll : ks.length = ls.length := by simp at hc; omega
  refine walkG ?_
  refine VC.loop (ι := {i : Nat // i ≤ ks.length ∧ ks.take i = ls.take i}) (fun q => [(0, .c (.sl 1 (ks.map sPV))), (1, .c (.sl 1 (ls.map sPV))), (5, .c (.v (.int .i64 (q.1 : Int))))]) (fun _ => []) 800 (fun q => ks.length - q.1) ⟨0, Nat.zero_le _, rfl⟩ ?_ ?_
  · simp only [Weak, eq_self, used_is, sc_any, sc_c, sc_pp, sc_ref, sc_row, sc_agg, sc_fn, ScL, some_imp, List.forall_mem_map, go_sem, Int.reduceBEq, Int.reduceLE, Int.reduceLT, Int.reduceNeg, Nat.reduceAdd, Nat.reduceEqDiff, Nat.reduceLT, Nat.reduceLeDiff, Nat.reduceMul, Nat.reduceSub, reduceCtorEq, ↓reduceIte]
  rintro ⟨i, hi, ht⟩
  simp only []
  refine walkG ?_
  refine VC.cond (by rfl) (by trivial) (fun hc2 => ?_) (fun hc2 => ?_)
  · have hlt : i < ks.length := by simp at hc2; omega
    obtain ⟨x, hx⟩ : ∃ x, ks[i]? = some x := ⟨ks[i], List.getElem?_eq_getElem hlt⟩
    obtain ⟨y, hy⟩ : ∃ y, ls[i]? = some y := ⟨ls[i]'(by omega), List.getElem?_eq_getElem (by omega)⟩
    have hw : IntKind.i64.wrap ((i : Int) + 1) = (i : Int) + 1 := wrap64_id (by omega) (by omega)
    have hxp : (ks.map sPV)[i]? = some (sPV x) := by rw [List.getElem?_map, hx]; rfl
    have hyp : (ls.map sPV)[i]? = some (sPV y) := by rw [List.getElem?_map, hy]; rfl
    refine walkGF (And.intro hxp (And.intro hyp (And.intro @sPV_eq @str_toList))) ?_
    refine VC.cond (by rfl) (by trivial) (fun hc3 => ?_) (fun hc3 => ?_)
    · have hf : V = false := by
        rw [hV, beq_eq_false_iff_ne]
        exact ne_at hx hy (by simpa using hc3)
      subst hf
      refine walkG ?_
      refine ⟨by first | exact .inr rfl | exact .inl rfl, ?_⟩; rw [Tryz.results68]; simp only [resOk, resV, go_sem, Int.reduceBEq, Int.reduceLE, Int.reduceLT, Int.reduceNeg, Nat.reduceAdd, Nat.reduceEqDiff, Nat.reduceLT, Nat.reduceLeDiff, Nat.reduceMul, Nat.reduceSub, reduceCtorEq, ↓reduceIte]
      exact .c _
    · have hxy : x = y := by simpa using hc3
      refine walkGF (hw) ?_
      refine .next ⟨i + 1, by omega, take_nexty hx hy ht hxy⟩ ?_ (by simp only []; omega)
      simp only [Weak, eq_self, used_is, sc_any, sc_c, sc_pp, sc_ref, sc_row, sc_agg, sc_fn, ScL, some_imp, List.forall_mem_map, go_sem, Int.reduceBEq, Int.reduceLE, Int.reduceLT, Int.reduceNeg, Nat.reduceAdd, Nat.reduceEqDiff, Nat.reduceLT, Nat.reduceLeDiff, Nat.reduceMul, Nat.reduceSub, reduceCtorEq, ↓reduceIte]
      try exact cI (by omega)
  · have hie : i = ks.length := by simp at hc2; omega
    have hf : V = true := by
      rw [hV, beq_iff_eq]
      exact take_end ht hie hll
    subst hf
    refine walkG ?_
    refine ⟨by first | exact .inr rfl | exact .inl rfl, ?_⟩; rw [Tryz.results68]; simp only [resOk, resV, go_sem, Int.reduceBEq, Int.reduceLE, Int.reduceLT, Int.reduceNeg, Nat.reduceAdd, Nat.reduceEqDiff, Nat.reduceLT, Nat.reduceLeDiff, Nat.reduceMul, Nat.reduceSub, reduceCtorEq, ↓reduceIte]
    exact .c _
set_option maxRecDepth 100000 in
set_option maxHeartbeats 800000 in
theorem rsimples_told (l : List (List UInt8)) (hl : l.length ≤ 1000000000) (hs : ∀ x ∈ l, x.length ≤ 1000000000) : Told Tryz.prog 211 [.c (.sl 1 (l.map sPV))] (.c (.v (.bool (allM simpleM l)))) := by
  obtain ⟨V, hV⟩ : ∃ V, V = allM simpleM l := ⟨_, rfl⟩
  rw [← hV]
  unfold allM at hV
  refine VC.told ent_211 Tryz.func211 rfl Tryz.ntmps211 (by simp) (by first | rfl | simp [AV.pureB, AV.pureL, pureL_c, pures]) (by first | rfl | simp [AV.pureB, AV.pureL, pureL_c, pures]) fun hb => ?_
  clear hb
  refine walkG ?_
  refine VC.loop (ι := {i : Nat // i ≤ l.length ∧ ∀ (j : Nat) (x : List UInt8), j < i → l[j]? = some x → simpleM x = true}) (fun q => [(0, .c (.sl 1 (l.map sPV))), (3, .c (.v (.int .i64 (q.1 : Int))))]) (fun _ => []) 800 (fun q => l.length - q.1) ⟨0, Nat.zero_le _, fun j x h => by omega⟩ ?_ ?_
  · simp only [Weak, eq_self, used_is, sc_any, sc_c, sc_pp, sc_ref, sc_row, sc_agg, sc_fn, ScL, some_imp, List.forall_mem_map, go_sem, Int.reduceBEq, Int.reduceLE, Int.reduceLT, Int.reduceNeg, Nat.reduceAdd, Nat.reduceEqDiff, Nat.reduceLT, Nat.reduceLeDiff, Nat.reduceMul, Nat.reduceSub, reduceCtorEq, ↓reduceIte]
  rintro ⟨i, hi, ht⟩
  simp only []
  refine walkG ?_
  refine VC.cond (by rfl) (by trivial) (fun hc => ?_) (fun hc => ?_)
  · have hlt : i < l.length := by simp at hc; omega
    obtain ⟨x, hx⟩ : ∃ x, l[i]? = some x := ⟨l[i], List.getElem?_eq_getElem hlt⟩
    have hw : IntKind.i64.wrap ((i : Int) + 1) = (i : Int) + 1 := wrap64_id (by omega) (by omega)
    have hxp : (l.map sPV)[i]? = some (sPV x) := by rw [List.getElem?_map, hx]; rfl
    have hS := rsimple_told x (hs x (List.mem_of_getElem? hx))
    refine walkGF (And.intro hxp @sPV_eq) ?_
    refine walkC (hS) ?_
    refine walkG ?_
    refine VC.cond (by rfl) (by trivial) (fun hc2 => ?_) (fun hc2 => ?_)
    · have hf : V = false := by
        have : l.all simpleM = false := by
          rw [List.all_eq_false]
          exact ⟨x, List.mem_of_getElem? hx, by simpa using hc2⟩
        rw [hV, this]
        simp
      subst hf
      refine walkG ?_
      refine ⟨by first | exact .inr rfl | exact .inl rfl, ?_⟩; rw [Tryz.results211]; simp only [resOk, resV, go_sem, Int.reduceBEq, Int.reduceLE, Int.reduceLT, Int.reduceNeg, Nat.reduceAdd, Nat.reduceEqDiff, Nat.reduceLT, Nat.reduceLeDiff, Nat.reduceMul, Nat.reduceSub, reduceCtorEq, ↓reduceIte]
      exact .c _
    · have hsx : simpleM x = true := by simpa using hc2
      refine walkGF (hw) ?_
      refine .next ⟨i + 1, by omega, ?_⟩ ?_ (by simp only []; omega)
      · intro j y hj hy
        by_cases hji : j < i
        · exact ht j y hji hy
        · obtain rfl : j = i := by omega
          rw [hx] at hy
          obtain rfl := Option.some.inj hy
          exact hsx
      simp only [Weak, eq_self, used_is, sc_any, sc_c, sc_pp, sc_ref, sc_row, sc_agg, sc_fn, ScL, some_imp, List.forall_mem_map, go_sem, Int.reduceBEq, Int.reduceLE, Int.reduceLT, Int.reduceNeg, Nat.reduceAdd, Nat.reduceEqDiff, Nat.reduceLT, Nat.reduceLeDiff, Nat.reduceMul, Nat.reduceSub, reduceCtorEq, ↓reduceIte]
      try exact cI (by omega)
  · have hie : i = l.length := by simp at hc; omega
    have hf : V = decide ((l.length : Int) ≤ 40) := by
      have : l.all simpleM = true := by
        rw [List.all_eq_true]
        intro y hy
        obtain ⟨j, hj⟩ := List.getElem?_of_mem hy
        exact ht j y (by have := (List.getElem?_eq_some_iff.1 hj).1; omega) hj
      rw [hV, this, Bool.and_true]
      exact decide_eq_decide.2 (by omega)
    rw [hf]
    refine walkG ?_
    refine ⟨by first | exact .inr rfl | exact .inl rfl, ?_⟩; rw [Tryz.results211]; simp only [resOk, resV, go_sem, Int.reduceBEq, Int.reduceLE, Int.reduceLT, Int.reduceNeg, Nat.reduceAdd, Nat.reduceEqDiff, Nat.reduceLT, Nat.reduceLeDiff, Nat.reduceMul, Nat.reduceSub, reduceCtorEq, ↓reduceIte]
    exact .c _
theorem nodup_take {l : List (List UInt8)} {i : Nat} {x : List UInt8} (hx : l[i]? = some x) (h : (l.take i).Nodup) (hn : ∀ (k : Nat) (y : List UInt8), k < i → l[k]? = some y → y ≠ x) : (l.take (i + 1)).Nodup := by
  rw [List.take_add_one, hx]
  simp only [Option.toList_some]
  rw [List.nodup_append]
  refine ⟨h, by simp, fun a ha b hb => ?_⟩
  obtain rfl := List.mem_singleton.1 hb
  obtain ⟨k, hk⟩ := List.getElem?_of_mem ha
  rw [List.getElem?_take] at hk
  split at hk
  · rename_i hki
    exact hn k a hki hk
  · simp at hk
theorem nodup_ne {l : List (List UInt8)} (h : l.Nodup) {i k : Nat} {x y : List UInt8} (hx : l[i]? = some x) (hy : l[k]? = some y) (hk : k < i) : y ≠ x := by
  obtain ⟨h1, rfl⟩ := List.getElem?_eq_some_iff.1 hx
  obtain ⟨h2, rfl⟩ := List.getElem?_eq_some_iff.1 hy
  intro e
  exact List.pairwise_iff_getElem.1 h k i h2 h1 hk e
set_option maxRecDepth 100000 in
set_option maxHeartbeats 800000 in
theorem ronce_told (l : List (List UInt8)) (hl : l.length ≤ 1000000000) : Told Tryz.prog 126 [.c (.sl 1 (l.map sPV))] (.c (.v (.bool (decide l.Nodup)))) := by
  obtain ⟨V, hV⟩ : ∃ V, V = decide l.Nodup := ⟨_, rfl⟩
  rw [← hV]
  refine VC.told ent_126 Tryz.func126 rfl Tryz.ntmps126 (by simp) (by first | rfl | simp [AV.pureB, AV.pureL, pureL_c, pures]) (by first | rfl | simp [AV.pureB, AV.pureL, pureL_c, pures]) fun hb => ?_
  clear hb
  refine walkG ?_
  refine VC.loop (ι := {i : Nat // i ≤ l.length ∧ (l.take i).Nodup}) (fun q => [(0, .c (.sl 1 (l.map sPV))), (3, .c (.v (.int .i64 (q.1 : Int))))]) (fun _ => []) 800 (fun q => l.length - q.1) ⟨0, Nat.zero_le _, by simp⟩ ?_ ?_
  · simp only [Weak, eq_self, used_is, sc_any, sc_c, sc_pp, sc_ref, sc_row, sc_agg, sc_fn, ScL, some_imp, List.forall_mem_map, go_sem, Int.reduceBEq, Int.reduceLE, Int.reduceLT, Int.reduceNeg, Nat.reduceAdd, Nat.reduceEqDiff, Nat.reduceLT, Nat.reduceLeDiff, Nat.reduceMul, Nat.reduceSub, reduceCtorEq, ↓reduceIte]
  rintro ⟨i, hi, ht⟩
  simp only []
  refine walkG ?_
  refine VC.cond (by rfl) (by trivial) (fun hc => ?_) (fun hc => ?_)
  · have hlt : i < l.length := by simp at hc; omega
    obtain ⟨x, hx⟩ : ∃ x, l[i]? = some x := ⟨l[i], List.getElem?_eq_getElem hlt⟩
    have hw : IntKind.i64.wrap ((i : Int) + 1) = (i : Int) + 1 := wrap64_id (by omega) (by omega)
    have hxp : (l.map sPV)[i]? = some (sPV x) := by rw [List.getElem?_map, hx]; rfl
    refine walkG ?_
    refine VC.loop (ι := {k : Nat // k ≤ i ∧ ∀ (j : Nat) (y : List UInt8), j < k → l[j]? = some y → y ≠ x}) (fun q => [(0, .c (.sl 1 (l.map sPV))), (3, .c (.v (.int .i64 (i : Int)))), (4, .c (.v (.int .i64 (q.1 : Int))))]) (fun _ => []) 800 (fun q => i - q.1) ⟨0, Nat.zero_le _, fun j y h => by omega⟩ ?_ ?_
    · simp only [Weak, eq_self, used_is, sc_any, sc_c, sc_pp, sc_ref, sc_row, sc_agg, sc_fn, ScL, some_imp, List.forall_mem_map, go_sem, Int.reduceBEq, Int.reduceLE, Int.reduceLT, Int.reduceNeg, Nat.reduceAdd, Nat.reduceEqDiff, Nat.reduceLT, Nat.reduceLeDiff, Nat.reduceMul, Nat.reduceSub, reduceCtorEq, ↓reduceIte]
    rintro ⟨k, hk, hn⟩
    simp only []
    refine walkG ?_
    refine VC.cond (by rfl) (by trivial) (fun hc2 => ?_) (fun hc2 => ?_)
    · have hki : k < i := by simp at hc2; omega
      obtain ⟨y, hy⟩ : ∃ y, l[k]? = some y := ⟨l[k]'(by omega), List.getElem?_eq_getElem (by omega)⟩
      have hwk : IntKind.i64.wrap ((k : Int) + 1) = (k : Int) + 1 := wrap64_id (by omega) (by omega)
      have hyp : (l.map sPV)[k]? = some (sPV y) := by rw [List.getElem?_map, hy]; rfl
      refine walkGF (And.intro hxp (And.intro hyp (And.intro @sPV_eq @str_toList))) ?_
      refine VC.cond (by rfl) (by trivial) (fun hc3 => ?_) (fun hc3 => ?_)
      · have hf : V = false := by
          rw [hV, decide_eq_false_iff_not]
          intro hd
          exact nodup_ne hd hx hy hki (by simpa using hc3)
        subst hf
        refine walkG ?_
        refine ⟨by first | exact .inr rfl | exact .inl rfl, ?_⟩; rw [Tryz.results126]; simp only [resOk, resV, go_sem, Int.reduceBEq, Int.reduceLE, Int.reduceLT, Int.reduceNeg, Nat.reduceAdd, Nat.reduceEqDiff, Nat.reduceLT, Nat.reduceLeDiff, Nat.reduceMul, Nat.reduceSub, reduceCtorEq, ↓reduceIte]
        exact .c _
      · have hyx : y ≠ x := by simpa using hc3
        refine walkGF (hwk) ?_
        refine .next ⟨k + 1, by omega, ?_⟩ ?_ (by simp only []; omega)
        · intro j z hj hz
          by_cases hji : j < k
          · exact hn j z hji hz
          · obtain rfl : j = k := by omega
            rw [hy] at hz
            obtain rfl := Option.some.inj hz
            exact hyx
        simp only [Weak, eq_self, used_is, sc_any, sc_c, sc_pp, sc_ref, sc_row, sc_agg, sc_fn, ScL, some_imp, List.forall_mem_map, go_sem, Int.reduceBEq, Int.reduceLE, Int.reduceLT, Int.reduceNeg, Nat.reduceAdd, Nat.reduceEqDiff, Nat.reduceLT, Nat.reduceLeDiff, Nat.reduceMul, Nat.reduceSub, reduceCtorEq, ↓reduceIte]
        try exact cI (by omega)
    · have hke : k = i := by simp at hc2; omega
      subst hke
      refine walkGF (hw) ?_
      refine .next ⟨k + 1, by omega, nodup_take hx ht hn⟩ ?_ (by simp only []; omega)
      simp only [Weak, eq_self, used_is, sc_any, sc_c, sc_pp, sc_ref, sc_row, sc_agg, sc_fn, ScL, some_imp, List.forall_mem_map, go_sem, Int.reduceBEq, Int.reduceLE, Int.reduceLT, Int.reduceNeg, Nat.reduceAdd, Nat.reduceEqDiff, Nat.reduceLT, Nat.reduceLeDiff, Nat.reduceMul, Nat.reduceSub, reduceCtorEq, ↓reduceIte]
      try exact cI (by omega)
  · have hie : i = l.length := by simp at hc; omega
    have hf : V = true := by
      rw [hV, decide_eq_true_eq]
      rw [hie, List.take_length] at ht
      exact ht
    subst hf
    refine walkG ?_
    refine ⟨by first | exact .inr rfl | exact .inl rfl, ?_⟩; rw [Tryz.results126]; simp only [resOk, resV, go_sem, Int.reduceBEq, Int.reduceLE, Int.reduceLT, Int.reduceNeg, Nat.reduceAdd, Nat.reduceEqDiff, Nat.reduceLT, Nat.reduceLeDiff, Nat.reduceMul, Nat.reduceSub, reduceCtorEq, ↓reduceIte]
    exact .c _

set_option maxRecDepth 100000 in
set_option maxHeartbeats 1600000 in
theorem rone_told (a b : NT) : Told Tryz.prog 61 [a.av, b.av] (.c (.v (.bool (ceq a b)))) := by
  obtain ⟨V, hV⟩ : ∃ V, V = ceq a b := ⟨_, rfl⟩
  rw [← hV]
  have hT1 := rtexts_told a.aliases b.aliases
  have hT2 := rtexts_told a.symbols b.symbols
  obtain ⟨t1, ht1⟩ : ∃ t, t = (a.aliases == b.aliases) := ⟨_, rfl⟩
  obtain ⟨t2, ht2⟩ : ∃ t, t = (a.symbols == b.symbols) := ⟨_, rfl⟩
  rw [← ht1] at hT1
  rw [← ht2] at hT2
  rw [NT.av_eq, NT.av_eq, ncells_mk, ncells_mk]
  refine VC.told ent_61 Tryz.func61 rfl Tryz.ntmps61 (by simp) (by first | rfl | simp [AV.pureB, AV.pureL, pureL_c, pures]) (by first | rfl | simp [AV.pureB, AV.pureL, pureL_c, pures]) fun hb => ?_
  simp only [List.map_cons, List.map_nil, abd_agg, abd_c, pbd_v, pbd_sl, List.mem_cons, List.not_mem_nil, or_false, forall_eq_or_imp, forall_eq, true_and, List.length_map] at hb
  have hfl : a.fields.length ≤ 9223372036854775807 := hb.1.2.1.1
  have hbl : a.branches.length ≤ 9223372036854775807 := hb.1.2.2.2.1
  clear hb
  refine walkGF (@str_toList) ?_
  refine walkD (hT1) ?_
  refine walkGF (@str_toList) ?_
  refine walkD (hT2) ?_
  refine walkGF (@str_toList) ?_
  refine VC.cond (by rfl) (by trivial) (fun hc => ?_) (fun hc => ?_)
  · have hf : V = false := by
      cases h : V with
      | false => rfl
      | true =>
        rw [hV, ceq_iff] at h
        subst h
        simp [ht1, ht2] at hc
    subst hf
    refine walkG ?_
    refine ⟨by first | exact .inr rfl | exact .inl rfl, ?_⟩; rw [Tryz.results61]; simp only [resOk, resV, go_sem, Int.reduceBEq, Int.reduceLE, Int.reduceLT, Int.reduceNeg, Nat.reduceAdd, Nat.reduceEqDiff, Nat.reduceLT, Nat.reduceLeDiff, Nat.reduceMul, Nat.reduceSub, reduceCtorEq, ↓reduceIte]
    exact .c _
  simp only [Bool.or_eq_false_iff, bne_eq_false_iff_eq, Bool.not_eq_false', beq_iff_eq] at hc
  obtain ⟨⟨⟨⟨⟨⟨⟨⟨⟨h1, h2⟩, h3⟩, h4⟩, h5⟩, h6⟩, h7⟩, h8⟩, h9⟩, h10⟩ := hc
  have hbb : a.branches.length = b.branches.length := by omega
  have hff : a.fields.length = b.fields.length := by omega
  have e3 : a.aliases = b.aliases := by simpa [ht1] using h3
  have e4 : a.symbols = b.symbols := by simpa [ht2] using h4
  have hv : V = (ceq a.fields b.fields && (a.branches == b.branches)) := by
    rw [hV, ceq_node, h1, h2, e3, e4, h5, h6, h7, h8]
    simp
  clear hV hT1 hT2 ht1 ht2
  refine walkG ?_
  refine VC.loop (ι := {i : Nat // i ≤ a.branches.length ∧ a.branches.take i = b.branches.take i}) (fun q => [(2, .ref 0 1 0 0), (3, .ref 8 1 0 0), (5, .c (.v (.int .i64 (q.1 : Int))))])
    (fun _ => [(0, ⟨false, 33, 10, [a.cells.map .c]⟩), (8, ⟨false, 33, 10, [b.cells.map .c]⟩)]) 800 (fun q => a.branches.length - q.1) ⟨0, Nat.zero_le _, rfl⟩ ?_ ?_
  · simp only [ncells_mk, Weak, eq_self, used_is, sc_any, sc_c, sc_pp, sc_ref, sc_row, sc_agg, sc_fn, ScL, some_imp, List.forall_mem_map, go_sem, Int.reduceBEq, Int.reduceLE, Int.reduceLT, Int.reduceNeg, Nat.reduceAdd, Nat.reduceEqDiff, Nat.reduceLT, Nat.reduceLeDiff, Nat.reduceMul, Nat.reduceSub, reduceCtorEq, ↓reduceIte]
    try simp
  rintro ⟨i, hi, ht⟩
  simp only []
  refine walkGF (@ncells_mk) ?_
  refine VC.cond (by rfl) (by trivial) (fun hc => ?_) (fun hc => ?_)
  · have hlt : i < a.branches.length := by simp at hc; omega
    obtain ⟨x, hx⟩ : ∃ x, a.branches[i]? = some x := ⟨a.branches[i], List.getElem?_eq_getElem hlt⟩
    obtain ⟨y, hy⟩ : ∃ y, b.branches[i]? = some y := ⟨b.branches[i]'(by omega), List.getElem?_eq_getElem (by omega)⟩
    have hw : IntKind.i64.wrap ((i : Int) + 1) = (i : Int) + 1 := wrap64_id (by omega) (by omega)
    have hxp : (a.branches.map iPV)[i]? = some (iPV x) := by rw [List.getElem?_map, hx]; rfl
    have hyp : (b.branches.map iPV)[i]? = some (iPV y) := by rw [List.getElem?_map, hy]; rfl
    refine walkGF (And.intro @ncells_mk (And.intro hxp (And.intro hyp @iPV_eq))) ?_
    refine VC.cond (by rfl) (by trivial) (fun hc2 => ?_) (fun hc2 => ?_)
    · have hf : V = false := by
        have : (a.branches == b.branches) = false := by
          rw [beq_eq_false_iff_ne]
          exact ne_at hx hy (by simpa using hc2)
        rw [hv, this]
        simp
      subst hf
      refine walkG ?_
      refine ⟨by first | exact .inr rfl | exact .inl rfl, ?_⟩; rw [Tryz.results61]; simp only [resOk, resV, go_sem, Int.reduceBEq, Int.reduceLE, Int.reduceLT, Int.reduceNeg, Nat.reduceAdd, Nat.reduceEqDiff, Nat.reduceLT, Nat.reduceLeDiff, Nat.reduceMul, Nat.reduceSub, reduceCtorEq, ↓reduceIte]
      exact .c _
    · have hxy : x = y := by simpa using hc2
      refine walkGF (hw) ?_
      refine .next ⟨i + 1, by omega, take_nexty hx hy ht hxy⟩ ?_ (by simp only []; omega)
      simp only [ncells_mk, Weak, eq_self, used_is, sc_any, sc_c, sc_pp, sc_ref, sc_row, sc_agg, sc_fn, ScL, some_imp, List.forall_mem_map, go_sem, Int.reduceBEq, Int.reduceLE, Int.reduceLT, Int.reduceNeg, Nat.reduceAdd, Nat.reduceEqDiff, Nat.reduceLT, Nat.reduceLeDiff, Nat.reduceMul, Nat.reduceSub, reduceCtorEq, ↓reduceIte]
      try exact cI (by omega)
  have hie : i = a.branches.length := by simp at hc; omega
  have hbe : a.branches = b.branches := take_end ht hie hbb
  have hv2 : V = ceq a.fields b.fields := by rw [hv, hbe]; simp
  clear hv hc
  refine walkG ?_
  refine VC.loop (ι := {i : Nat // i ≤ a.fields.length ∧ a.fields.take i = b.fields.take i}) (fun q => [(2, .ref 0 1 0 0), (3, .ref 8 1 0 0), (6, .c (.v (.int .i64 (q.1 : Int))))])
    (fun _ => [(0, ⟨false, 33, 10, [a.cells.map .c]⟩), (8, ⟨false, 33, 10, [b.cells.map .c]⟩)]) 1600 (fun q => a.fields.length - q.1) ⟨0, Nat.zero_le _, rfl⟩ ?_ ?_
  · simp only [ncells_mk, Weak, eq_self, used_is, sc_any, sc_c, sc_pp, sc_ref, sc_row, sc_agg, sc_fn, ScL, some_imp, List.forall_mem_map, go_sem, Int.reduceBEq, Int.reduceLE, Int.reduceLT, Int.reduceNeg, Nat.reduceAdd, Nat.reduceEqDiff, Nat.reduceLT, Nat.reduceLeDiff, Nat.reduceMul, Nat.reduceSub, reduceCtorEq, ↓reduceIte]
    try simp
  clear hie ht hi i
  rintro ⟨i, hi, ht⟩
  simp only []
  refine walkGF (@ncells_mk) ?_
  refine VC.cond (by rfl) (by trivial) (fun hc => ?_) (fun hc => ?_)
  · have hlt : i < a.fields.length := by simp at hc; omega
    obtain ⟨x, hx⟩ : ∃ x, a.fields[i]? = some x := ⟨a.fields[i], List.getElem?_eq_getElem hlt⟩
    obtain ⟨y, hy⟩ : ∃ y, b.fields[i]? = some y := ⟨b.fields[i]'(by omega), List.getElem?_eq_getElem (by omega)⟩
    have hw : IntKind.i64.wrap ((i : Int) + 1) = (i : Int) + 1 := wrap64_id (by omega) (by omega)
    have hxp : (a.fields.map FT.cells)[i]? = some x.cells := by rw [List.getElem?_map, hx]; rfl
    have hyp : (b.fields.map FT.cells)[i]? = some y.cells := by rw [List.getElem?_map, hy]; rfl
    have hT := rtexts_told x.aliases y.aliases
    have hS := rsame_told _ x.dflt y.dflt (Nat.le_refl _)
    simp only [JT.av] at hS
    obtain ⟨u1, hu1⟩ : ∃ t, t = (x.aliases == y.aliases) := ⟨_, rfl⟩
    obtain ⟨u2, hu2⟩ : ∃ t, t = jeq x.dflt y.dflt := ⟨_, rfl⟩
    rw [← hu1] at hT
    rw [← hu2] at hS
    refine walkGF (And.intro @ncells_mk (And.intro hxp (And.intro hyp (And.intro @fcells_mk (And.intro @len_cells (And.intro @take_cells (And.intro @take_cellsC @str_toList))))))) ?_
    refine walkD (hT) ?_
    refine walkGF (And.intro @ncells_mk (And.intro hxp (And.intro hyp (And.intro @fcells_mk (And.intro @len_cells (And.intro @take_cells (And.intro @take_cellsC @str_toList))))))) ?_
    refine walkDF (@pureL_c) (hS) ?_
    refine walkG ?_
    refine VC.cond (by rfl) (by trivial) (fun hc2 => ?_) (fun hc2 => ?_)
    · have hne : x ≠ y := by
        rintro rfl
        simp [hu1, hu2, jeq_self] at hc2
      have hf : V = false := by
        rw [hv2, ceq_false]
        exact ne_at hx hy hne
      subst hf
      refine walkG ?_
      refine ⟨by first | exact .inr rfl | exact .inl rfl, ?_⟩; rw [Tryz.results61]; simp only [resOk, resV, go_sem, Int.reduceBEq, Int.reduceLE, Int.reduceLT, Int.reduceNeg, Nat.reduceAdd, Nat.reduceEqDiff, Nat.reduceLT, Nat.reduceLeDiff, Nat.reduceMul, Nat.reduceSub, reduceCtorEq, ↓reduceIte]
      exact .c _
    · have hxy : x = y := by
        have e := ceq_field x y
        simp only [Bool.or_eq_false_iff, bne_eq_false_iff_eq, Bool.not_eq_false', beq_iff_eq] at hc2
        obtain ⟨⟨⟨⟨g1, g2⟩, g3⟩, g4⟩, g5⟩ := hc2
        have g2 : x.aliases = y.aliases := by simpa [hu1] using g2
        rw [← ceq_iff, e, g1, g2, g3, g4, ← hu2, g5]
        simp
      refine walkGF (hw) ?_
      refine .next ⟨i + 1, by omega, take_nexty hx hy ht hxy⟩ ?_ (by simp only []; omega)
      simp only [ncells_mk, Weak, eq_self, used_is, sc_any, sc_c, sc_pp, sc_ref, sc_row, sc_agg, sc_fn, ScL, some_imp, List.forall_mem_map, go_sem, Int.reduceBEq, Int.reduceLE, Int.reduceLT, Int.reduceNeg, Nat.reduceAdd, Nat.reduceEqDiff, Nat.reduceLT, Nat.reduceLeDiff, Nat.reduceMul, Nat.reduceSub, reduceCtorEq, ↓reduceIte]
      try exact cI (by omega)
  · have hie : i = a.fields.length := by simp at hc; omega
    have hfe : a.fields = b.fields := take_end ht hie hff
    have hf : V = true := by
      rw [hv2, hfe, ceq_self]
    subst hf
    refine walkG ?_
    refine ⟨by first | exact .inr rfl | exact .inl rfl, ?_⟩; rw [Tryz.results61]; simp only [resOk, resV, go_sem, Int.reduceBEq, Int.reduceLE, Int.reduceLT, Int.reduceNeg, Nat.reduceAdd, Nat.reduceEqDiff, Nat.reduceLT, Nat.reduceLeDiff, Nat.reduceMul, Nat.reduceSub, reduceCtorEq, ↓reduceIte]
    exact .c _
end

inductive MQF {ι : Type} (l : ι → List (Nat × AV)) (hl : ι → List (Nat × Blkd)) (n : Nat) (Q : Exit → ASt → Prop) : Exit → ASt → Prop
  | normal {σ : ASt} (j : ι) (h : Weak σ (l j) (hl j) n) : MQF l hl n Q .normal σ
  | ret {σ : ASt} (h : Q .ret σ) : MQF l hl n Q .ret σ
  | exit {σ : ASt} {id : Nat} (h : Q (.exit id) σ) : MQF l hl n Q (.exit id) σ
instance pF1 {ι : Type} {lv : ι → List (Nat × AV)} {hl : ι → List (Nat × Blkd)} {n : Nat} {σ : ASt} {Q : Exit → ASt → Prop} : Pass (MQF lv hl n Q .ret σ) (Q .ret σ) := ⟨.ret⟩
instance pF2 {ι : Type} {lv : ι → List (Nat × AV)} {hl : ι → List (Nat × Blkd)} {n : Nat} {σ : ASt} {Q : Exit → ASt → Prop} {id : Nat} : Pass (MQF lv hl n Q (.exit id) σ) (Q (.exit id) σ) := ⟨.exit⟩
theorem VC.meetF {P : Program} {N : Nat} {σ : ASt} {Q : Exit → ASt → Prop} {x y : Code} {ι : Type} (l : ι → List (Nat × AV)) (hl : ι → List (Nat × Blkd)) (n : Nat) (h1 : VC P N x σ (MQF l hl n Q)) (h2 : ∀ j, VC P N y (st (l j) (hl j) n) Q) : VC P N x σ (SQ P N y Q) :=
  h1.mono fun e σ h => by
    cases h with
    | normal j h => exact .normal (VC.weak (l j) (hl j) n h (h2 j))
    | ret h => exact .ret h
    | exit h => exact .exit h
section

def isChr (c : Int) : Bool := decide (0 ≤ c ∧ c ≤ 1114111 ∧ (c < 55296 ∨ 57344 ≤ c))
def uenc (c : Nat) : List UInt8 :=
  if c < 128 then [c.toUInt8] else if c < 2048 then [(192 + c / 64).toUInt8, (128 + c % 64).toUInt8]
  else if c < 65536 then [(224 + c / 4096).toUInt8, (128 + c / 64 % 64).toUInt8, (128 + c % 64).toUInt8]
  else [(240 + c / 262144).toUInt8, (128 + c / 4096 % 64).toUInt8, (128 + c / 64 % 64).toUInt8, (128 + c % 64).toUInt8]
theorem uenc_len (c : Nat) : (uenc c).length ≤ 4 := by
  unfold uenc
  split
  · simp
  · split
    · simp
    · split <;> simp
variable {l : List UInt8} {p : Nat}
def bN (l : List UInt8) (i : Nat) : Nat := (byteAt l i).toNat
theorem bN_lt (l : List UInt8) (i : Nat) : bN l i < 256 := (byteAt l i).toNat_lt
def UForm (l : List UInt8) (p : Nat) (n : Nat) : Prop :=
  (n = 1 ∧ p < l.length ∧ bN l p < 128) ∨
  (n = 2 ∧ p + 1 < l.length ∧ 194 ≤ bN l p ∧ bN l p < 224 ∧ 128 ≤ bN l (p + 1) ∧ bN l (p + 1) < 192) ∨
  (n = 3 ∧ p + 2 < l.length ∧ 224 ≤ bN l p ∧ bN l p < 240 ∧ 128 ≤ bN l (p + 1) ∧ bN l (p + 1) < 192 ∧ 128 ≤ bN l (p + 2) ∧ bN l (p + 2) < 192 ∧ (bN l p = 224 → 160 ≤ bN l (p + 1)) ∧ (bN l p = 237 → bN l (p + 1) ≤ 159)) ∨
  (n = 4 ∧ p + 3 < l.length ∧ 240 ≤ bN l p ∧ bN l p < 245 ∧ 128 ≤ bN l (p + 1) ∧ bN l (p + 1) < 192 ∧ 128 ≤ bN l (p + 2) ∧ bN l (p + 2) < 192 ∧ 128 ≤ bN l (p + 3) ∧ bN l (p + 3) < 192 ∧ (bN l p = 240 → 144 ≤ bN l (p + 1)) ∧ (bN l p = 244 → bN l (p + 1) ≤ 143))
def cvN (l : List UInt8) (p n : Nat) : Int :=
  if n = 1 then (bN l p : Int) else if n = 2 then ((bN l p : Int) - 192) * 64 + ((bN l (p + 1) : Int) - 128)
  else if n = 3 then ((bN l p : Int) - 224) * 4096 + ((bN l (p + 1) : Int) - 128) * 64 + ((bN l (p + 2) : Int) - 128)
  else ((bN l p : Int) - 240) * 262144 + ((bN l (p + 1) : Int) - 128) * 4096 + ((bN l (p + 2) : Int) - 128) * 64 + ((bN l (p + 3) : Int) - 128)
def wtest (l : List UInt8) (p n : Nat) : Bool := isChr (cvN l p n) && (((uenc (cvN l p n).toNat).length == n) && (uenc (cvN l p n).toNat).isPrefixOf (l.drop p))
theorem ustep_zero {i : Nat} : ustep l p i = 0 ↔ p + i < l.length ∧ 128 ≤ bN l (p + i) ∧ bN l (p + i) < 192 ∧ (i = 1 → ulo (byteAt l p) ≤ bN l (p + i) ∧ bN l (p + i) ≤ uhi (byteAt l p)) := by
  unfold ustep ucont usec bN
  by_cases h : p + i < l.length
  · rw [if_pos h]
    simp only [decide_eq_true_eq]
    split
    · rename_i h2; simp only [h, true_and, true_iff]; exact ⟨h2.1.1, h2.1.2, h2.2⟩
    · rename_i h2
      constructor
      · intro h3; omega
      · intro h3; exact absurd ⟨⟨h3.2.1, h3.2.2.1⟩, h3.2.2.2⟩ h2
  · rw [if_neg h]
    constructor
    · intro h3; omega
    · intro h3; exact absurd h3.1 h
theorem ustat_zero {k : Nat} : ustat l p (k + 1) = 0 ↔ ustat l p k = 0 ∧ ustep l p (k + 1) = 0 := by
  simp only [ustat]
  split
  · rename_i h; simp [h]
  · rename_i h; simp [h]
theorem ulo_le (c : UInt8) : (c.toNat = 224 → ulo c = 160) ∧ (c.toNat = 240 → ulo c = 144) ∧ (c.toNat ≠ 224 → c.toNat ≠ 240 → ulo c = 128) := by
  unfold ulo
  refine ⟨fun h => by rw [if_pos h], fun h => by rw [if_neg (by omega), if_pos h], fun h h' => by rw [if_neg h, if_neg h']⟩
theorem uhi_le (c : UInt8) : (c.toNat = 237 → uhi c = 159) ∧ (c.toNat = 244 → uhi c = 143) ∧ (c.toNat ≠ 237 → c.toNat ≠ 244 → uhi c = 191) := by
  unfold uhi
  refine ⟨fun h => by rw [if_pos h], fun h => by rw [if_neg (by omega), if_pos h], fun h h' => by rw [if_neg h, if_neg h']⟩
theorem ufirst_one {c : UInt8} (h : c.toNat < 128) : ufirst c = 1 := by unfold ufirst; rw [if_pos h]
theorem ufirst_two {c : UInt8} (h : 194 ≤ c.toNat) (h' : c.toNat < 224) : ufirst c = 2 := by unfold ufirst; rw [if_neg (by omega), if_neg (by omega), if_pos h']
theorem ufirst_three {c : UInt8} (h : 224 ≤ c.toNat) (h' : c.toNat < 240) : ufirst c = 3 := by unfold ufirst; rw [if_neg (by omega), if_neg (by omega), if_neg (by omega), if_pos h']
theorem ufirst_four {c : UInt8} (h : 240 ≤ c.toNat) (h' : c.toNat < 245) : ufirst c = 4 := by unfold ufirst; rw [if_neg (by omega), if_neg (by omega), if_neg (by omega), if_neg (by omega), if_pos h']
theorem ufirst_none {c : UInt8} (h : (128 ≤ c.toNat ∧ c.toNat < 194) ∨ 245 ≤ c.toNat) : ufirst c = 0 := by
  unfold ufirst
  rcases h with h | h
  · rw [if_neg (by omega), if_pos (by omega)]
  · rw [if_neg (by omega), if_neg (by omega), if_neg (by omega), if_neg (by omega), if_neg (by omega)]
theorem form_uerr {n : Nat} (h : UForm l p n) : uerr l p = 0 ∧ ulen l p = n := by
  have hlo := ulo_le (byteAt l p)
  have hhi := uhi_le (byteAt l p)
  unfold UForm at h
  unfold uerr ulen
  rcases h with ⟨rfl, h0, h1⟩ | ⟨rfl, h0, h1, h2, h3, h4⟩ | ⟨rfl, h0, h1, h2, h3, h4, h5, h6, h7, h8⟩ | ⟨rfl, h0, h1, h2, h3, h4, h5, h6, h7, h8, h9, h10⟩
  · rw [if_pos h0, ufirst_one h1]
    exact ⟨rfl, rfl⟩
  · rw [if_pos (by omega), ufirst_two h1 h2]
    refine ⟨?_, rfl⟩
    rw [if_neg (by decide)]
    have e1 : ustep l p 1 = 0 := ustep_zero.2 ⟨h0, h3, h4, fun _ => by unfold bN at *; rw [hlo.2.2 (by omega) (by omega), hhi.2.2 (by omega) (by omega)]; omega⟩
    exact ustat_zero.2 ⟨rfl, e1⟩
  · rw [if_pos (by omega), ufirst_three h1 h2]
    refine ⟨?_, rfl⟩
    rw [if_neg (by decide)]
    have e1 : ustep l p 1 = 0 := ustep_zero.2 ⟨by omega, h3, h4, fun _ => by
      unfold bN at *
      constructor
      · by_cases q : (byteAt l p).toNat = 224
        · rw [hlo.1 q]; exact h7 q
        · rw [hlo.2.2 q (by omega)]; exact h3
      · by_cases q : (byteAt l p).toNat = 237
        · rw [hhi.1 q]; exact h8 q
        · rw [hhi.2.2 q (by omega)]; omega⟩
    have e2 : ustep l p 2 = 0 := ustep_zero.2 ⟨by omega, h5, h6, fun q => by omega⟩
    exact ustat_zero.2 ⟨ustat_zero.2 ⟨rfl, e1⟩, e2⟩
  · rw [if_pos (by omega), ufirst_four h1 h2]
    refine ⟨?_, rfl⟩
    rw [if_neg (by decide)]
    have e1 : ustep l p 1 = 0 := ustep_zero.2 ⟨by omega, h3, h4, fun _ => by
      unfold bN at *
      constructor
      · by_cases q : (byteAt l p).toNat = 240
        · rw [hlo.2.1 q]; exact h9 q
        · rw [hlo.2.2 (by omega) q]; exact h3
      · by_cases q : (byteAt l p).toNat = 244
        · rw [hhi.2.1 q]; exact h10 q
        · rw [hhi.2.2 (by omega) q]; omega⟩
    have e2 : ustep l p 2 = 0 := ustep_zero.2 ⟨by omega, h5, h6, fun q => by omega⟩
    have e3 : ustep l p 3 = 0 := ustep_zero.2 ⟨by omega, h7, h8, fun q => by omega⟩
    exact ustat_zero.2 ⟨ustat_zero.2 ⟨ustat_zero.2 ⟨rfl, e1⟩, e2⟩, e3⟩
theorem uerr_form (h : uerr l p = 0) : UForm l p (ulen l p) := by
  have hlo := ulo_le (byteAt l p)
  have hhi := uhi_le (byteAt l p)
  unfold uerr at h
  unfold ulen UForm
  by_cases hp : p < l.length
  · rw [if_pos hp] at h
    have hb := bN_lt l p
    unfold bN at hb
    have hr : (byteAt l p).toNat < 128 ∨ ((128 ≤ (byteAt l p).toNat ∧ (byteAt l p).toNat < 194) ∨ 245 ≤ (byteAt l p).toNat) ∨ (194 ≤ (byteAt l p).toNat ∧ (byteAt l p).toNat < 224) ∨ (224 ≤ (byteAt l p).toNat ∧ (byteAt l p).toNat < 240) ∨ (240 ≤ (byteAt l p).toNat ∧ (byteAt l p).toNat < 245) := by omega
    rcases hr with hr | hr | hr | hr | hr
    · rw [ufirst_one hr]; exact .inl ⟨rfl, hp, hr⟩
    · rw [ufirst_none hr, if_pos rfl] at h; omega
    · rw [ufirst_two hr.1 hr.2, if_neg (by decide)] at h
      rw [ufirst_two hr.1 hr.2]
      have e1 := ustep_zero.1 (ustat_zero.1 h).2
      exact .inr (.inl ⟨rfl, e1.1, hr.1, hr.2, e1.2.1, e1.2.2.1⟩)
    · rw [ufirst_three hr.1 hr.2, if_neg (by decide)] at h
      rw [ufirst_three hr.1 hr.2]
      have h2 := ustat_zero.1 h
      have e2 := ustep_zero.1 h2.2
      have e1 := ustep_zero.1 (ustat_zero.1 h2.1).2
      have e1' := e1.2.2.2 rfl
      refine .inr (.inr (.inl ⟨rfl, e2.1, hr.1, hr.2, e1.2.1, e1.2.2.1, e2.2.1, e2.2.2.1, fun q => ?_, fun q => ?_⟩))
      · rw [hlo.1 q] at e1'; exact e1'.1
      · rw [hhi.1 q] at e1'; exact e1'.2
    · rw [ufirst_four hr.1 hr.2, if_neg (by decide)] at h
      rw [ufirst_four hr.1 hr.2]
      have h3 := ustat_zero.1 h
      have e3 := ustep_zero.1 h3.2
      have h2 := ustat_zero.1 h3.1
      have e2 := ustep_zero.1 h2.2
      have e1 := ustep_zero.1 (ustat_zero.1 h2.1).2
      have e1' := e1.2.2.2 rfl
      refine .inr (.inr (.inr ⟨rfl, e3.1, hr.1, hr.2, e1.2.1, e1.2.2.1, e2.2.1, e2.2.2.1, e3.2.1, e3.2.2.1, fun q => ?_, fun q => ?_⟩))
      · rw [hlo.2.1 q] at e1'; exact e1'.1
      · rw [hhi.2.1 q] at e1'; exact e1'.2
  · rw [if_neg hp] at h; omega
theorem drop_cons {l : List UInt8} {p : Nat} (h : p < l.length) : l.drop p = byteAt l p :: l.drop (p + 1) := by
  rw [List.drop_eq_getElem_cons h]
  unfold byteAt
  rw [List.getElem?_eq_getElem h]
  rfl
theorem pre_iff {l : List UInt8} : ∀ (xs : List UInt8) (p : Nat), xs ≠ [] → (xs.isPrefixOf (l.drop p) = true ↔ p + xs.length ≤ l.length ∧ ∀ i, i < xs.length → byteAt l (p + i) = xs[i]?.getD 0) := by
  intro xs
  induction xs with
  | nil => intro p h; exact absurd rfl h
  | cons x xs ih =>
    intro p _
    by_cases hp : p < l.length
    · rw [drop_cons hp, List.isPrefixOf_cons_cons, Bool.and_eq_true, beq_iff_eq]
      by_cases hx : xs = []
      · subst hx
        simp
        constructor
        · intro h; exact ⟨by omega, h.symm⟩
        · intro h; exact h.2.symm
      · rw [ih (p + 1) hx]
        constructor
        · rintro ⟨h1, h2, h3⟩
          refine ⟨by simp; omega, fun i hi => ?_⟩
          cases i with
          | zero => simpa using h1.symm
          | succ i =>
            have := h3 i (by simp at hi; omega)
            rw [show p + (i + 1) = p + 1 + i from by omega, this]
            simp
        · rintro ⟨h1, h2⟩
          refine ⟨by simpa using (h2 0 (by simp)).symm, by simp at h1; omega, fun i hi => ?_⟩
          have := h2 (i + 1) (by simp; omega)
          rw [show p + 1 + i = p + (i + 1) from by omega, this]
          simp
    · rw [List.drop_eq_nil_of_le (by omega)]
      constructor
      · intro h; simp at h
      · intro h; simp at h; omega
theorem u8_eq {c : UInt8} {n : Nat} (h : c.toNat = n) (hn : n < 256) : c = n.toUInt8 := by
  apply UInt8.toNat_inj.1
  simp
  omega
theorem u8_ne {c : UInt8} {n : Nat} (h : c = n.toUInt8) (hn : n < 256) : c.toNat = n := by
  rw [h]
  simp
  omega
theorem isChr_iff {c : Int} : isChr c = true ↔ 0 ≤ c ∧ c ≤ 1114111 ∧ (c < 55296 ∨ 57344 ≤ c) := by unfold isChr; simp
theorem form_test {n : Nat} (h : UForm l p n) : wtest l p n = true := by
  unfold UForm at h
  unfold wtest
  rw [Bool.and_eq_true, Bool.and_eq_true, isChr_iff, beq_iff_eq]
  rcases h with ⟨rfl, h0, h1⟩ | ⟨rfl, h0, h1, h2, h3, h4⟩ | ⟨rfl, h0, h1, h2, h3, h4, h5, h6, h7, h8⟩ | ⟨rfl, h0, h1, h2, h3, h4, h5, h6, h7, h8, h9, h10⟩
  · have hc : cvN l p 1 = (bN l p : Int) := rfl
    obtain ⟨c, e⟩ : ∃ c, c = (cvN l p 1).toNat := ⟨_, rfl⟩
    have hu : uenc c = [c.toUInt8] := by unfold uenc; rw [if_pos (by omega)]
    rw [← e, hu]
    refine ⟨by omega, rfl, (pre_iff _ p (by simp)).2 ⟨by simp; omega, fun i hi => ?_⟩⟩
    simp at hi
    subst hi
    exact u8_eq (by unfold bN at *; simp; omega) (by omega)
  · have hc : cvN l p 2 = ((bN l p : Int) - 192) * 64 + ((bN l (p + 1) : Int) - 128) := rfl
    obtain ⟨c, e⟩ : ∃ c, c = (cvN l p 2).toNat := ⟨_, rfl⟩
    have hu : uenc c = [(192 + c / 64).toUInt8, (128 + c % 64).toUInt8] := by unfold uenc; rw [if_neg (by omega), if_pos (by omega)]
    rw [← e, hu]
    refine ⟨by omega, rfl, (pre_iff _ p (by simp)).2 ⟨by simp; omega, fun i hi => ?_⟩⟩
    simp at hi
    have hi : i = 0 ∨ i = 1 := by omega
    rcases hi with rfl | rfl
    · exact u8_eq (by unfold bN at *; simp; omega) (by omega)
    · exact u8_eq (by unfold bN at *; omega) (by omega)
  · have hc : cvN l p 3 = ((bN l p : Int) - 224) * 4096 + ((bN l (p + 1) : Int) - 128) * 64 + ((bN l (p + 2) : Int) - 128) := rfl
    obtain ⟨c, e⟩ : ∃ c, c = (cvN l p 3).toNat := ⟨_, rfl⟩
    have hu : uenc c = [(224 + c / 4096).toUInt8, (128 + c / 64 % 64).toUInt8, (128 + c % 64).toUInt8] := by unfold uenc; rw [if_neg (by omega), if_neg (by omega), if_pos (by omega)]
    rw [← e, hu]
    refine ⟨by omega, rfl, (pre_iff _ p (by simp)).2 ⟨by simp; omega, fun i hi => ?_⟩⟩
    simp at hi
    have hi : i = 0 ∨ i = 1 ∨ i = 2 := by omega
    rcases hi with rfl | rfl | rfl
    · exact u8_eq (by unfold bN at *; simp; omega) (by omega)
    · exact u8_eq (by unfold bN at *; omega) (by omega)
    · exact u8_eq (by unfold bN at *; omega) (by omega)
  · have hc : cvN l p 4 = ((bN l p : Int) - 240) * 262144 + ((bN l (p + 1) : Int) - 128) * 4096 + ((bN l (p + 2) : Int) - 128) * 64 + ((bN l (p + 3) : Int) - 128) := rfl
    obtain ⟨c, e⟩ : ∃ c, c = (cvN l p 4).toNat := ⟨_, rfl⟩
    have hu : uenc c = [(240 + c / 262144).toUInt8, (128 + c / 4096 % 64).toUInt8, (128 + c / 64 % 64).toUInt8, (128 + c % 64).toUInt8] := by unfold uenc; rw [if_neg (by omega), if_neg (by omega), if_neg (by omega)]
    rw [← e, hu]
    refine ⟨by omega, rfl, (pre_iff _ p (by simp)).2 ⟨by simp; omega, fun i hi => ?_⟩⟩
    simp at hi
    have hi : i = 0 ∨ i = 1 ∨ i = 2 ∨ i = 3 := by omega
    rcases hi with rfl | rfl | rfl | rfl
    · exact u8_eq (by unfold bN at *; simp; omega) (by omega)
    · exact u8_eq (by unfold bN at *; omega) (by omega)
    · exact u8_eq (by unfold bN at *; omega) (by omega)
    · exact u8_eq (by unfold bN at *; omega) (by omega)
theorem uenc_cases (c : Nat) : (c < 128 ∧ uenc c = [c.toUInt8]) ∨ (128 ≤ c ∧ c < 2048 ∧ uenc c = [(192 + c / 64).toUInt8, (128 + c % 64).toUInt8]) ∨
    (2048 ≤ c ∧ c < 65536 ∧ uenc c = [(224 + c / 4096).toUInt8, (128 + c / 64 % 64).toUInt8, (128 + c % 64).toUInt8]) ∨ (65536 ≤ c ∧ uenc c = [(240 + c / 262144).toUInt8, (128 + c / 4096 % 64).toUInt8, (128 + c / 64 % 64).toUInt8, (128 + c % 64).toUInt8]) := by
  unfold uenc
  by_cases h1 : c < 128
  · exact .inl ⟨h1, if_pos h1⟩
  by_cases h2 : c < 2048
  · exact .inr (.inl ⟨by omega, h2, by rw [if_neg h1, if_pos h2]⟩)
  by_cases h3 : c < 65536
  · exact .inr (.inr (.inl ⟨by omega, h3, by rw [if_neg h1, if_neg h2, if_pos h3]⟩))
  · exact .inr (.inr (.inr ⟨by omega, by rw [if_neg h1, if_neg h2, if_neg h3]⟩))
theorem enc_form {c : Nat} (hc : isChr (c : Int) = true) (h : (uenc c).isPrefixOf (l.drop p) = true) : UForm l p (uenc c).length := by
  have hch := isChr_iff.1 hc
  unfold UForm
  rcases uenc_cases c with ⟨h1, e⟩ | ⟨h1, h2, e⟩ | ⟨h1, h2, e⟩ | ⟨h1, e⟩
  · rw [e] at h ⊢
    obtain ⟨q1, q2⟩ := (pre_iff _ p (by simp)).1 h
    have b0 := u8_ne (q2 0 (by simp)) (by omega)
    simp at q1 b0
    refine .inl ⟨rfl, by omega, by unfold bN; omega⟩
  · rw [e] at h ⊢
    obtain ⟨q1, q2⟩ := (pre_iff _ p (by simp)).1 h
    have b0 := u8_ne (q2 0 (by simp)) (by omega)
    have b1 := u8_ne (q2 1 (by simp)) (by omega)
    simp only [Nat.add_zero, List.length_cons, List.length_nil] at q1 b0
    refine .inr (.inl ⟨rfl, by omega, ?_⟩)
    unfold bN
    omega
  · rw [e] at h ⊢
    obtain ⟨q1, q2⟩ := (pre_iff _ p (by simp)).1 h
    have b0 := u8_ne (q2 0 (by simp)) (by omega)
    have b1 := u8_ne (q2 1 (by simp)) (by omega)
    have b2 := u8_ne (q2 2 (by simp)) (by omega)
    simp only [Nat.add_zero, List.length_cons, List.length_nil] at q1 b0
    refine .inr (.inr (.inl ⟨rfl, by omega, ?_⟩))
    unfold bN
    omega
  · rw [e] at h ⊢
    obtain ⟨q1, q2⟩ := (pre_iff _ p (by simp)).1 h
    have b0 := u8_ne (q2 0 (by simp)) (by omega)
    have b1 := u8_ne (q2 1 (by simp)) (by omega)
    have b2 := u8_ne (q2 2 (by simp)) (by omega)
    have b3 := u8_ne (q2 3 (by simp)) (by omega)
    simp only [Nat.add_zero, List.length_cons, List.length_nil] at q1 b0
    refine .inr (.inr (.inr ⟨rfl, by omega, ?_⟩))
    unfold bN
    omega
theorem test_form {n : Nat} (h : wtest l p n = true) : UForm l p n := by
  unfold wtest at h
  rw [Bool.and_eq_true, Bool.and_eq_true, beq_iff_eq] at h
  obtain ⟨h1, h2, h3⟩ := h
  have h0 := isChr_iff.1 h1
  have := enc_form (l := l) (p := p) (c := (cvN l p n).toNat) (by rw [show (((cvN l p n).toNat : Nat) : Int) = cvN l p n from by omega]; exact h1) h3
  rwa [h2] at this
def wholeV (l : List UInt8) (p : Nat) : Int := if uerr l p = 0 then cvN l p (ulen l p) else -1
theorem wtest_n {n : Nat} (h : wtest l p n = true) : wholeV l p = cvN l p n := by
  obtain ⟨h1, h2⟩ := form_uerr (test_form h)
  unfold wholeV
  rw [if_pos h1, h2]
theorem wtest_none (h1 : wtest l p 1 = false) (h2 : wtest l p 2 = false) (h3 : wtest l p 3 = false) (h4 : wtest l p 4 = false) : wholeV l p = -1 := by
  unfold wholeV
  rw [if_neg]
  intro he
  have hf := uerr_form he
  have ht := form_test hf
  have hn : ulen l p = 1 ∨ ulen l p = 2 ∨ ulen l p = 3 ∨ ulen l p = 4 := by unfold UForm at hf; omega
  rcases hn with hn | hn | hn | hn <;> rw [hn] at ht <;> simp_all
theorem wtest_long {n : Nat} (h : l.length < p + n) : wtest l p n = false ∨ n = 0 := by
  by_cases h0 : n = 0
  · exact .inr h0
  · left
    cases ht : wtest l p n with
    | false => rfl
    | true =>
      have := test_form ht
      unfold UForm at this
      omega
theorem wholeV_len (h : 0 ≤ wholeV l p) : uerr l p = 0 ∧ isChr (wholeV l p) = true ∧ (uenc (wholeV l p).toNat).length = ulen l p := by
  unfold wholeV at h ⊢
  by_cases he : uerr l p = 0
  · rw [if_pos he] at h ⊢
    have ht := form_test (uerr_form he)
    unfold wtest at ht
    rw [Bool.and_eq_true, Bool.and_eq_true, beq_iff_eq] at ht
    exact ⟨he, ht.1, ht.2.1⟩
  · rw [if_neg he] at h
    omega
theorem notest {m : List UInt8} {n : Nat} (h : ∀ k, 1 ≤ k → k < n → wtest m 0 k = false) (hn : wtest m 0 n = false) : ∀ k, 1 ≤ k → k < n + 1 → wtest m 0 k = false := by
  intro k h1 h2
  rcases Nat.lt_or_ge k n with h3 | h3
  · exact h k h1 h3
  · obtain rfl : k = n := by omega
    exact hn
theorem byteAt_drop (l : List UInt8) (p i : Nat) : byteAt (l.drop p) i = byteAt l (p + i) := by
  unfold byteAt
  rw [List.getElem?_drop]
theorem bN_drop (l : List UInt8) (p i : Nat) : bN (l.drop p) i = bN l (p + i) := by unfold bN; rw [byteAt_drop]
theorem form_drop {l : List UInt8} {p n : Nat} : UForm (l.drop p) 0 n ↔ UForm l p n := by
  have e : ∀ k, (k < l.length - p) = (p + k < l.length) := fun k => propext (by omega)
  unfold UForm
  simp only [bN_drop, List.length_drop, Nat.zero_add, Nat.add_zero, e]
theorem cvN_drop (l : List UInt8) (p n : Nat) : cvN (l.drop p) 0 n = cvN l p n := by
  unfold cvN
  simp only [bN_drop, Nat.zero_add, Nat.add_zero]
theorem wholeV_drop (l : List UInt8) (p : Nat) : wholeV (l.drop p) 0 = wholeV l p := by
  by_cases h : uerr l p = 0
  · have hf := uerr_form h
    have h2 := form_uerr (form_drop.2 hf)
    unfold wholeV
    rw [if_pos h, if_pos h2.1, h2.2, cvN_drop]
  · have h2 : uerr (l.drop p) 0 ≠ 0 := fun e => h (form_uerr (form_drop.1 (uerr_form e))).1
    unfold wholeV
    rw [if_neg h, if_neg h2]
def fillL (j : Nat) : List UInt8 := if j = 0 then [128, 128, 128] else if j = 1 then [191, 191, 191] else if j = 2 then [160, 128, 128] else if j = 3 then [144, 128, 128] else if j = 4 then [143, 191, 191] else [159, 191, 191]
theorem fillL_len (j : Nat) : (fillL j).length = 3 := by
  unfold fillL
  repeat' split
  all_goals rfl
end
section
attribute [local go_sem] opx opE ev okx gcond bnd okO AV.get AV.okb cAV upd_at putd_some putd_none wrs_nil wrs_cons look_nil look_cons st argT_at bpick_and bpick_or bpick_true bpick_false binV binI binS binVOk binOk isShift binSOk unV unVOk loadV loadP cellsA zeroA Blkd.len setE grown moreA moreR moreOk eqRes pv fillA fillE putSeg AV.cellish AV.pureL AV.pureB lentL_is ex_some AV.ren AV.renL renL_c Blkd.ren rho wrM renN lentOk rhoE keepM endOk tyA_2 tyA_3 tyA_4 tyA_5 tyA_6 tyA_7 tyA_8 tyA_9 tyA_10 tyA_11 tyA_12 tyA_13 tyA_14 tyA_15 tyA_16 tyA_17 tyA_18 tyA_19 tyA_21 tyA_22 tyA_23 tyA_24 tyA_29 tyA_30 tyA_31 tyA_32 tyA_33 tyA_34 tyA_35 tyA_36 tyA_37 tyA_38 tyA_39 tyA_40 tyA_41 tyA_42 tyA_43 tyA_48 tyA_89 tyA_93 tyA_107 tyA_108 tyA_109 tyA_113 tyA_114 tyA_115 tyA_116 tyA_117 tyA_119 tyA_120 tyA_121 tyA_122 tyA_131 tyA_134 tyA_135 tyA_136 tyA_137 tyA_138 tyA_154 tyA_156 tyA_157 tyA_158 tyA_159 tyA_170 tyA_180 tyA_181 tyA_182 tyA_196 tyA_202 tyA_208 tyA_209 tyA_210 tyA_211 tyA_212 tyA_213 tyA_229 tyA_230 tyA_231 tyA_241 tyA_264 tyA_268 tyA_293 tyA_294 tyA_295 tyA_311 tyA_313 tyA_321 tyA_326 tyA_334 tyA_338 tyA_340 tyA_343 tyA_344 tyA_345 tyA_346 tyA_347 tyA_348 tyA_349 tyA_351 tyA_352 Option.map_some Option.map_none Option.getD_some Option.getD_none Option.bind_some Option.bind_none List.getElem?_cons_zero List.getElem?_cons_succ List.getElem?_nil List.getElem?_toArray List.length_cons List.length_nil List.length_map List.forall_mem_map List.map_cons List.map_nil List.drop_zero List.drop_succ_cons List.drop_nil List.take_zero List.take_succ_cons List.take_nil List.mem_cons List.not_mem_nil or_false forall_eq_or_imp forall_eq List.set_cons_zero List.set_cons_succ List.cons_append List.nil_append List.append_nil List.foldl_cons List.foldl_nil List.replicate_succ List.replicate_zero List.all_cons List.all_nil if_true if_false Bool.false_eq_true ne_eq not_false_eq_true not_true_eq_false true_and and_true and_self true_implies imp_self implies_true forall_const beq_self_eq_true Bool.and_true Bool.true_and Bool.and_false Bool.false_and Bool.or_true Bool.true_or Bool.or_false Bool.false_or Bool.not_true Bool.not_false Bool.not_eq_eq_eq_not intKindOf Value.oneCell' Int.toNat_natCast beq_true beq_false Bool.not_eq_true false_implies false_or true_or or_true Nat.zero_add Nat.add_zero decide_true decide_false Int.cast_ofNat_Int Int.toNat_zero Int.toNat_one eq_self

def byP (b : UInt8) : List PV := [.v (.int .u8 (b.toNat : Int))]
theorem bpvOk (l : List UInt8) : bytesOk (bytePV l) = True := eq_true (bytePV_ok l)
theorem rchar_told (c : Int) : Told Tryz.prog 289 [.c (.v (.int .i64 c))] (.c (.v (.bool (isChr c)))) := by
  obtain ⟨V, hV⟩ : ∃ V, V = isChr c := ⟨_, rfl⟩
  rw [← hV]
  have hv : V = ((decide (c ≥ 0) && decide (c ≤ 1114111)) && (decide (c < 55296) || decide (c > 57343))) := by
    rw [hV, isChr, Bool.eq_iff_iff]
    simp
    omega
  clear hV
  replace hv := Lib.hid hv
  refine VC.told ent_289 Tryz.func289 rfl Tryz.ntmps289 (by simp) (by first | rfl | simp [AV.pureB, AV.pureL, pureL_c, pures]) (by first | rfl | simp [AV.pureB, AV.pureL, pureL_c, pures]) fun hb => ?_
  clear hb
  refine walkG ?_
  refine ⟨by first | exact .inr rfl | exact .inl rfl, ?_⟩; rw [Tryz.results289]; simp only [resOk, resV, go_sem, Int.reduceBEq, Int.reduceLE, Int.reduceLT, Int.reduceNeg, Nat.reduceAdd, Nat.reduceEqDiff, Nat.reduceLT, Nat.reduceLeDiff, Nat.reduceMul, Nat.reduceSub, reduceCtorEq, ↓reduceIte]
  rw [hv.out]
  exact .c _
set_option maxRecDepth 100000 in
set_option maxHeartbeats 800000 in
theorem rput_told (c : Nat) (hc : c ≤ 1114111) : Told Tryz.prog 261 [.c (.v (.int .i64 (c : Int)))] (.c (.sl 1 (bytePV (uenc c)))) := by
  have hU : ∀ (z : Int) (n : Nat), z = (n : Int) → n < 256 → IntKind.u8.wrap z = ((n.toUInt8).toNat : Int) := fun z n h1 h2 => by
    rw [IntKind.wrap_u8, h1]
    simp
  have hQ : ∀ (a b : Nat), a ≤ 1114111 → IntKind.i64.wrap (Int.tdiv (a : Int) (b : Int)) = ((a / b : Nat) : Int) := fun a b h => by
    have e : Int.tdiv (a : Int) (b : Int) = ((a / b : Nat) : Int) := by simp [Int.tdiv]
    have := Nat.div_le_self a b
    rw [e]
    generalize a / b = q at this
    exact wrap64_id (by omega) (by omega)
  have hR : ∀ (a b : Nat), Int.tmod (a : Int) (b : Int) = ((a % b : Nat) : Int) := fun a b => by simp [Int.tmod]
  have hW : ∀ (k n : Nat), k + n < 256 → IntKind.u8.wrap (IntKind.i64.wrap ((k : Int) + (n : Int))) = (((k + n).toUInt8).toNat : Int) := fun k n h => by
    rw [wrap64_id (by omega) (by omega)]
    exact hU _ (k + n) (by omega) h
  have q1 := hQ c 64 hc
  have q2 := hQ c 4096 hc
  have q3 := hQ c 262144 hc
  have r1 := hR c 64
  have r2 := hR (c / 64) 64
  have r3 := hR (c / 4096) 64
  by_cases h1 : c < 128
  · have hE : uenc c = [c.toUInt8] := by rw [uenc, if_pos h1]
    have e1 : decide ((c : Int) < 128) = true := by simp; omega
    rw [hE]
    refine VC.told ent_261 Tryz.func261 rfl Tryz.ntmps261 (by simp) (by first | rfl | simp [AV.pureB, AV.pureL, pureL_c, pures]) (by first | rfl | simp [AV.pureB, AV.pureL, pureL_c, pures]) fun hb => ?_
    clear hb
    refine walkBF (e1) ?_
    rw [hU (c : Int) c rfl (by omega)]
    refine ⟨by first | exact .inr rfl | exact .inl rfl, ?_⟩; rw [Tryz.results261]; simp only [resOk, resV, go_sem, Int.reduceBEq, Int.reduceLE, Int.reduceLT, Int.reduceNeg, Nat.reduceAdd, Nat.reduceEqDiff, Nat.reduceLT, Nat.reduceLeDiff, Nat.reduceMul, Nat.reduceSub, reduceCtorEq, ↓reduceIte]
    exact frz_rA (f := byP) (l := [c.toUInt8]) rfl rfl rfl (by simp [byP])
  have e1 : decide ((c : Int) < 128) = false := by simp; omega
  by_cases h2 : c < 2048
  · have hE : uenc c = [(192 + c / 64).toUInt8, (128 + c % 64).toUInt8] := by rw [uenc, if_neg h1, if_pos h2]
    have e2 : decide ((c : Int) < 2048) = true := by simp; omega
    rw [hE]
    refine VC.told ent_261 Tryz.func261 rfl Tryz.ntmps261 (by simp) (by first | rfl | simp [AV.pureB, AV.pureL, pureL_c, pures]) (by first | rfl | simp [AV.pureB, AV.pureL, pureL_c, pures]) fun hb => ?_
    clear hb
    refine walkBF (And.intro e1 e2) ?_
    rw [show (64 : Int) = ((64 : Nat) : Int) from rfl, q1, r1, show (192 : Int) = ((192 : Nat) : Int) from rfl, show (128 : Int) = ((128 : Nat) : Int) from rfl, hW 192 _ (by omega), hW 128 _ (by omega)]
    refine ⟨by first | exact .inr rfl | exact .inl rfl, ?_⟩; rw [Tryz.results261]; simp only [resOk, resV, go_sem, Int.reduceBEq, Int.reduceLE, Int.reduceLT, Int.reduceNeg, Nat.reduceAdd, Nat.reduceEqDiff, Nat.reduceLT, Nat.reduceLeDiff, Nat.reduceMul, Nat.reduceSub, reduceCtorEq, ↓reduceIte]
    exact frz_rA (f := byP) (l := [(192 + c / 64).toUInt8, (128 + c % 64).toUInt8]) rfl rfl rfl (by simp [byP])
  have e2 : decide ((c : Int) < 2048) = false := by simp; omega
  by_cases h3 : c < 65536
  · have hE : uenc c = [(224 + c / 4096).toUInt8, (128 + c / 64 % 64).toUInt8, (128 + c % 64).toUInt8] := by rw [uenc, if_neg h1, if_neg h2, if_pos h3]
    have e3 : decide ((c : Int) < 65536) = true := by simp; omega
    rw [hE]
    refine VC.told ent_261 Tryz.func261 rfl Tryz.ntmps261 (by simp) (by first | rfl | simp [AV.pureB, AV.pureL, pureL_c, pures]) (by first | rfl | simp [AV.pureB, AV.pureL, pureL_c, pures]) fun hb => ?_
    clear hb
    refine walkBF (And.intro e1 (And.intro e2 e3)) ?_
    rw [show (64 : Int) = ((64 : Nat) : Int) from rfl, show (4096 : Int) = ((4096 : Nat) : Int) from rfl, q1, q2, r1, r2, show (224 : Int) = ((224 : Nat) : Int) from rfl, show (128 : Int) = ((128 : Nat) : Int) from rfl, hW 224 _ (by omega), hW 128 (c / 64 % 64) (by omega), hW 128 (c % 64) (by omega)]
    refine ⟨by first | exact .inr rfl | exact .inl rfl, ?_⟩; rw [Tryz.results261]; simp only [resOk, resV, go_sem, Int.reduceBEq, Int.reduceLE, Int.reduceLT, Int.reduceNeg, Nat.reduceAdd, Nat.reduceEqDiff, Nat.reduceLT, Nat.reduceLeDiff, Nat.reduceMul, Nat.reduceSub, reduceCtorEq, ↓reduceIte]
    exact frz_rA (f := byP) (l := [(224 + c / 4096).toUInt8, (128 + c / 64 % 64).toUInt8, (128 + c % 64).toUInt8]) rfl rfl rfl (by simp [byP])
  · have hE : uenc c = [(240 + c / 262144).toUInt8, (128 + c / 4096 % 64).toUInt8, (128 + c / 64 % 64).toUInt8, (128 + c % 64).toUInt8] := by rw [uenc, if_neg h1, if_neg h2, if_neg h3]
    have e3 : decide ((c : Int) < 65536) = false := by simp; omega
    rw [hE]
    refine VC.told ent_261 Tryz.func261 rfl Tryz.ntmps261 (by simp) (by first | rfl | simp [AV.pureB, AV.pureL, pureL_c, pures]) (by first | rfl | simp [AV.pureB, AV.pureL, pureL_c, pures]) fun hb => ?_
    clear hb
    refine walkBF (And.intro e1 (And.intro e2 e3)) ?_
    rw [show (64 : Int) = ((64 : Nat) : Int) from rfl, show (4096 : Int) = ((4096 : Nat) : Int) from rfl, show (262144 : Int) = ((262144 : Nat) : Int) from rfl, q1, q2, q3, r1, r2, r3, show (240 : Int) = ((240 : Nat) : Int) from rfl, show (128 : Int) = ((128 : Nat) : Int) from rfl, hW 240 _ (by omega), hW 128 (c / 64 % 64) (by omega), hW 128 (c % 64) (by omega), hW 128 (c / 4096 % 64) (by omega)]
    refine ⟨by first | exact .inr rfl | exact .inl rfl, ?_⟩; rw [Tryz.results261]; simp only [resOk, resV, go_sem, Int.reduceBEq, Int.reduceLE, Int.reduceLT, Int.reduceNeg, Nat.reduceAdd, Nat.reduceEqDiff, Nat.reduceLT, Nat.reduceLeDiff, Nat.reduceMul, Nat.reduceSub, reduceCtorEq, ↓reduceIte]
    exact frz_rA (f := byP) (l := [(240 + c / 262144).toUInt8, (128 + c / 4096 % 64).toUInt8, (128 + c / 64 % 64).toUInt8, (128 + c % 64).toUInt8]) rfl rfl rfl (by simp [byP])
set_option maxRecDepth 100000 in
set_option maxHeartbeats 800000 in
theorem rstarts_told (b a : List UInt8) (hb1 : b.length ≤ 1000000) (ha1 : a.length ≤ 1000000) : Told Tryz.prog 290 [.c (.sl 1 (bytePV b)), .c (.sl 1 (bytePV a))] (.c (.v (.bool (a.isPrefixOf b)))) := by
  have la : (bytePV a).length = a.length := by simp [bytePV]
  have lb : (bytePV b).length = b.length := by simp [bytePV]
  have tb : (bytePV b).take a.length = bytePV (b.take a.length) := by simp [bytePV, List.map_take]
  by_cases h : a.length ≤ b.length
  · have hv : a.isPrefixOf b = (b.take a.length == a) := by
      rw [Bool.eq_iff_iff, List.isPrefixOf_iff_prefix, List.prefix_iff_eq_take, beq_iff_eq]
      exact ⟨fun e => e.symm, fun e => e.symm⟩
    have e1 : decide ((a.length : Int) ≤ (b.length : Int)) = true := by simp; omega
    have s1 : (⟨(b.take a.length).toArray⟩ : ByteArray).toList = b.take a.length := str_toList _
    have s2 : (⟨a.toArray⟩ : ByteArray).toList = a := str_toList _
    rw [hv]
    refine VC.told ent_290 Tryz.func290 rfl Tryz.ntmps290 (by simp) (by first | rfl | simp [AV.pureB, AV.pureL, pureL_c, pures]) (by first | rfl | simp [AV.pureB, AV.pureL, pureL_c, pures]) fun hb => ?_
    clear hb
    (repeat (first | refine pass ?_ | refine VC.region (by rfl) (by rfl) ?_ | (refine AO.step fun K hK => ?_; simp only [la, lb, e1, tb, bytesOf_pv, bpvOk, bstr, s1, s2, go_sem, Int.reduceBEq, Int.reduceLE, Int.reduceLT, Int.reduceNeg, Nat.reduceAdd, Nat.reduceEqDiff, Nat.reduceLT, Nat.reduceLeDiff, Nat.reduceMul, Nat.reduceSub, reduceCtorEq, ↓reduceIte]; (first | refine gsel_skip ?_ | refine gsel_go ?_ | skip); (first | refine hK _ _ _ ?_ | refine ⟨by first | omega | exact ⟨_, rfl, rfl⟩ | exact fun _ => ⟨_, rfl, rfl⟩ | (intro h; simp only [la, lb, e1, tb, bytesOf_pv, bpvOk, bstr, s1, s2, h, true_and]; omega) | (clear hK; intro h; simp_all <;> omega), hK _ _ _ ?_⟩); clear hK K) | refine VC.draw mixP (by rfl) (by rfl) ?_ | refine ⟨okd_of (by kernel_rfl), ?_⟩ | refine BQ.other (by decide) ?_ | refine VC.seq ?_ | refine AO.nil ?_ | refine VC.block ?_))
    refine ⟨by first | exact .inr rfl | exact .inl rfl, ?_⟩; rw [Tryz.results290]; simp only [resOk, resV, go_sem, Int.reduceBEq, Int.reduceLE, Int.reduceLT, Int.reduceNeg, Nat.reduceAdd, Nat.reduceEqDiff, Nat.reduceLT, Nat.reduceLeDiff, Nat.reduceMul, Nat.reduceSub, reduceCtorEq, ↓reduceIte]
    exact .c _
  · have hv : a.isPrefixOf b = false := by
      rw [Bool.eq_false_iff]
      intro e
      exact h (List.isPrefixOf_iff_prefix.1 e).length_le
    have e1 : decide ((a.length : Int) ≤ (b.length : Int)) = false := by simp; omega
    rw [hv]
    refine VC.told ent_290 Tryz.func290 rfl Tryz.ntmps290 (by simp) (by first | rfl | simp [AV.pureB, AV.pureL, pureL_c, pures]) (by first | rfl | simp [AV.pureB, AV.pureL, pureL_c, pures]) fun hb => ?_
    clear hb
    refine walkBF (And.intro la (And.intro lb e1)) ?_
    refine ⟨by first | exact .inr rfl | exact .inl rfl, ?_⟩; rw [Tryz.results290]; simp only [resOk, resV, go_sem, Int.reduceBEq, Int.reduceLE, Int.reduceLT, Int.reduceNeg, Nat.reduceAdd, Nat.reduceEqDiff, Nat.reduceLT, Nat.reduceLeDiff, Nat.reduceMul, Nat.reduceSub, reduceCtorEq, ↓reduceIte]
    exact .c _
end
end Go.Proofs.YtkaogeogjjcdhaaGreatDoor
