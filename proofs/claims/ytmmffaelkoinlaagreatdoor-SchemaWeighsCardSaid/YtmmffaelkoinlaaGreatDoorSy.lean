/- schema.Weight, and the law SchemaWeighs, as contracts. -/
import Derived.Test.YtmmffaelkoinlaaGreatDoorWo
import Derived.Test.YtmmffaelkoinlaaGreatDoorSv
import Derived.Test.YtmmffaelkoinlaaGreatDoorWg
namespace Go.Proofs.YtmmffaelkoinlaaGreatDoor
open Go.RowKit
set_option linter.unusedVariables false
set_option linter.unusedSimpArgs false
attribute [local go_sem] opx opE ev okx gcond bnd okO AV.get AV.okb cAV upd_at putd_some putd_none wrs_nil wrs_cons look_nil look_cons st argT_at bpick_and bpick_or bpick_true bpick_false binV binI binS binVOk binOk isShift binSOk unV unVOk loadV loadP cellsA zeroA Blkd.len setE grown moreA moreR moreOk eqRes pv fillA fillE putSeg AV.cellish AV.pureL AV.pureB lentL_is ex_some AV.ren AV.renL renL_c Blkd.ren rho wrM renN lentOk rhoE keepM endOk tyA_2 tyA_3 tyA_4 tyA_5 tyA_6 tyA_7 tyA_8 tyA_9 tyA_10 tyA_11 tyA_12 tyA_13 tyA_14 tyA_15 tyA_16 tyA_17 tyA_18 tyA_19 tyA_21 tyA_22 tyA_23 tyA_24 tyA_28 tyA_29 tyA_30 tyA_31 tyA_32 tyA_34 tyA_35 tyA_36 tyA_37 tyA_38 tyA_42 tyA_47 tyA_48 tyA_49 tyA_50 tyA_51 tyA_81 tyA_85 tyA_89 tyA_90 tyA_91 tyA_98 tyA_110 tyA_111 tyA_112 tyA_113 tyA_114 tyA_119 tyA_130 tyA_160 tyA_163 tyA_165 tyA_171 tyA_181 tyA_185 tyA_187 tyA_191 tyA_192 tyA_193 tyA_194 tyA_195 tyA_197 tyA_198 tyA_200 tyA_201 tyA_202 tyA_205 Option.map_some Option.map_none Option.getD_some Option.getD_none Option.bind_some Option.bind_none List.getElem?_cons_zero List.getElem?_cons_succ List.getElem?_nil List.getElem?_toArray List.length_cons List.length_nil List.length_map List.forall_mem_map List.map_cons List.map_nil List.drop_zero List.drop_succ_cons List.drop_nil List.take_zero List.take_succ_cons List.take_nil List.mem_cons List.not_mem_nil or_false forall_eq_or_imp forall_eq List.set_cons_zero List.set_cons_succ List.cons_append List.nil_append List.append_nil List.foldl_cons List.foldl_nil List.replicate_succ List.replicate_zero List.all_cons List.all_nil if_true if_false Bool.false_eq_true ne_eq not_false_eq_true not_true_eq_false true_and and_true and_self true_implies imp_self implies_true forall_const beq_self_eq_true Bool.and_true Bool.true_and Bool.and_false Bool.false_and Bool.or_true Bool.true_or Bool.or_false Bool.false_or Bool.not_true Bool.not_false Bool.not_eq_eq_eq_not intKindOf Value.oneCell' Int.toNat_natCast beq_true beq_false Bool.not_eq_true false_implies false_or true_or or_true Nat.zero_add Nat.add_zero decide_true decide_false Int.cast_ofNat_Int Int.toNat_zero Int.toNat_one eq_self

theorem ssm_le' {s : ST} (h : s.sm 2500) : s.sm 1000000 := by
  obtain ⟨h1, h2⟩ := h
  refine ⟨by omega, fun n hn => ?_⟩
  obtain ⟨a1, a2, ⟨a3, a4⟩, ⟨a5, a6⟩, a7, a8, a9⟩ := h2 n hn
  refine ⟨by omega, by omega, ⟨by omega, fun y hy => by have := a4 y hy; omega⟩, ⟨by omega, fun y hy => by have := a6 y hy; omega⟩, by omega, by omega, fun f hf => ?_⟩
  obtain ⟨b1, b2, b3, b4⟩ := a9 f hf
  exact ⟨by omega, by omega, fun y hy => by have := b3 y hy; omega, sm_le (by omega) _ b4⟩
theorem range_kinds {s : ST} (h : orderedM s = true) : ∀ n ∈ s.nodes, n.kind = 9 → ∀ f ∈ n.fields, 0 ≤ f.type ∧ f.type < (s.nodes.length : Int) := fun n hn h9 f hf =>
  ordered_kids h n hn f.type (by rw [kidsN, if_pos h9]; exact List.mem_map.2 ⟨f, hf, rfl⟩)
theorem range_at {s : ST} (h : orderedM s = true) : ∀ p, ∀ x ∈ fieldsAt s.nodes p, x.type.toNat < s.nodes.length := fun p x hx => by
  unfold fieldsAt at hx
  split at hx
  · rename_i n hn
    split at hx
    · rename_i h9
      have := range_kinds h n (List.mem_of_getElem? hn) h9 x hx
      omega
    · simp at hx
  · simp at hx
set_option maxRecDepth 100000 in
set_option maxHeartbeats 1600000 in
theorem sWeight_yes (s : ST) (hsm : s.sm 1000000) (ho : orderedM s = true) (p : Nat) (hp : p < s.nodes.length) : Told Tryz.prog 9 [s.av, .c (.v (.int .i64 (p : Int)))] (.c (.v (.int .i64 (wOf s.nodes p)))) := by
  obtain ⟨hl, hs⟩ := hsm
  have hO := ordered_told s hl hs
  rw [ho] at hO
  have hW := weight_told s hl hs (range_kinds ho) (s.nodes.length + 1) p (List.replicate s.nodes.length 0) hp (by simp) (fun x hx => by obtain rfl := (List.mem_replicate.1 hx).2; decide) (by have := List.count_le_length (a := (0 : Int)) (l := List.replicate s.nodes.length 0); simp at this ⊢)
  have hwl : (rA iPV (weighM s.nodes (s.nodes.length + 1) p (List.replicate s.nodes.length 0)).2).length = s.nodes.length := by
    rw [rA_len]
    exact (weighM_ok s.nodes (s.nodes.length + 1) p _ (by simp) (fun x hx => by obtain rfl := (List.mem_replicate.1 hx).2; decide)).1
  obtain ⟨V, hV⟩ : ∃ V, V = wOf s.nodes p := ⟨_, rfl⟩
  rw [← hV]
  unfold wOf at hV
  rw [← hV] at hW
  generalize (weighM s.nodes (s.nodes.length + 1) p (List.replicate s.nodes.length 0)).2 = D at hW hwl
  clear hV
  rw [rA_rep] at hW
  simp only [ST.av_eq, scells_mk, List.map_cons, List.map_nil] at hO hW
  have f0 : decide ((p : Int) < 0) = false := by simp
  have f1 : decide ((p : Int) ≥ (s.nodes.length : Int)) = false := by simp; omega
  rw [ST.av_eq, scells_mk]
  refine VC.told ent_9 Tryz.func9 rfl Tryz.ntmps9 (by simp) (by first | rfl | simp [AV.pureB, AV.pureL, pureL_c, pures]) (by first | rfl | simp [AV.pureB, AV.pureL, pureL_c, pures]) fun hb => ?_
  clear hb
  refine walkGF (And.intro f0 f1) ?_
  refine walkC (hO) ?_
  (repeat (first | refine pass ?_ | refine VC.region (by rfl) (by rfl) ?_ | (refine AO.step fun K hK => ?_; simp only [List.length_replicate, go_sem, Int.reduceBEq, Int.reduceLE, Int.reduceLT, Int.reduceNeg, Nat.reduceAdd, Nat.reduceEqDiff, Nat.reduceLT, Nat.reduceLeDiff, Nat.reduceMul, Nat.reduceSub, reduceCtorEq, ↓reduceIte]; (first | refine gsel_skip ?_ | refine gsel_go ?_ | skip); (first | refine hK _ _ _ ?_ | refine ⟨by first | omega | exact ⟨_, rfl, rfl⟩ | exact fun _ => ⟨_, rfl, rfl⟩ | (intro h; simp only [List.length_replicate, h, true_and]; omega) | (clear hK; intro h; simp_all <;> omega), hK _ _ _ ?_⟩); clear hK K) | refine VC.draw mixP (by rfl) (by rfl) ?_ | refine ⟨okd_of (by kernel_rfl), ?_⟩ | refine BQ.other (by decide) ?_ | refine VC.seq ?_ | refine AO.nil ?_ | refine VC.block ?_ | refine VC.condT (by rfl) (by trivial) ?_ | refine VC.condF (by rfl) (by trivial) ?_))
  ((refine AO.step fun K hK => ?_; simp only [go_sem, Int.reduceBEq, Int.reduceLE, Int.reduceLT, Int.reduceNeg, Nat.reduceAdd, Nat.reduceEqDiff, Nat.reduceLT, Nat.reduceLeDiff, Nat.reduceMul, Nat.reduceSub, reduceCtorEq, ↓reduceIte, rA_ren, List.length_replicate, List.map_replicate]; (first | refine gsel_go ?_ | skip)); refine .inr (.inr (.inl ⟨?vy1, [168], ?va1, ?vl1, ?vm1, ?cond1, ?cont1⟩)); (case cond1 => ((repeat' apply And.intro) <;> (try ((with_reducible show ToldM _ _ _ _ _ _); exact hW))); (all_goals first | trivial | (simp only [rA_ren, List.length_replicate, List.map_replicate, go_sem, Int.reduceBEq, Int.reduceLE, Int.reduceLT, Int.reduceNeg, Nat.reduceAdd, Nat.reduceEqDiff, Nat.reduceLT, Nat.reduceLeDiff, Nat.reduceMul, Nat.reduceSub, reduceCtorEq, ↓reduceIte]; done) | (simp; done) | rfl)); (first | refine hK _ _ _ ?_ | (simp only [rA_ren, List.length_replicate, List.map_replicate, go_sem, Int.reduceBEq, Int.reduceLE, Int.reduceLT, Int.reduceNeg, Nat.reduceAdd, Nat.reduceEqDiff, Nat.reduceLT, Nat.reduceLeDiff, Nat.reduceMul, Nat.reduceSub, reduceCtorEq, ↓reduceIte]; first | refine hK _ _ _ ?_ | refine ⟨rfl, hK _ _ _ ?_⟩)); clear hK K)
  refine walkG ?_
  refine ⟨by first | exact .inr rfl | exact .inl rfl, ?_⟩; rw [Tryz.results9]; simp only [resOk, resV, go_sem, Int.reduceBEq, Int.reduceLE, Int.reduceLT, Int.reduceNeg, Nat.reduceAdd, Nat.reduceEqDiff, Nat.reduceLT, Nat.reduceLeDiff, Nat.reduceMul, Nat.reduceSub, reduceCtorEq, ↓reduceIte]
  exact .c _
set_option maxRecDepth 100000 in
set_option maxHeartbeats 800000 in
theorem sWeight_no (s : ST) (hsm : s.sm 1000000) (ho : orderedM s = false) (hp : 0 < s.nodes.length) : Told Tryz.prog 9 [s.av, .c (.v (.int .i64 0))] (.c (.v (.int .i64 0))) := by
  obtain ⟨hl, hs⟩ := hsm
  have hO := ordered_told s hl hs
  rw [ho] at hO
  simp only [ST.av_eq, scells_mk, List.map_cons, List.map_nil] at hO
  have f1 : decide ((0 : Int) ≥ (s.nodes.length : Int)) = false := by
    rw [decide_eq_false_iff_not]
    omega
  have f0 : decide ((0 : Int) < 0) = false := by decide
  rw [ST.av_eq, scells_mk]
  refine VC.told ent_9 Tryz.func9 rfl Tryz.ntmps9 (by simp) (by first | rfl | simp [AV.pureB, AV.pureL, pureL_c, pures]) (by first | rfl | simp [AV.pureB, AV.pureL, pureL_c, pures]) fun hb => ?_
  clear hb
  refine walkGF (And.intro f0 f1) ?_
  refine walkC (hO) ?_
  refine walkB ?_
  refine ⟨by first | exact .inr rfl | exact .inl rfl, ?_⟩; rw [Tryz.results9]; simp only [resOk, resV, go_sem, Int.reduceBEq, Int.reduceLE, Int.reduceLT, Int.reduceNeg, Nat.reduceAdd, Nat.reduceEqDiff, Nat.reduceLT, Nat.reduceLeDiff, Nat.reduceMul, Nat.reduceSub, reduceCtorEq, ↓reduceIte]
  exact .c _
theorem weighs_fix {s : ST} (ho : orderedM s = true) {i : Nat} (hi : i < s.nodes.length) : foldW (wOf s.nodes) (fieldsAt s.nodes i) 1 = wOf s.nodes i := by
  obtain ⟨G, hG⟩ := exG s.nodes (range_at ho)
  rw [wOf_G hG (range_at ho) hi, hG.fix i hi]
  exact foldW_congr _ _ fun x hx => wOf_G hG (range_at ho) (range_at ho i x hx)
theorem weighs_range {s : ST} (ho : orderedM s = true) {i : Nat} (hi : i < s.nodes.length) : 1 ≤ wOf s.nodes i ∧ wOf s.nodes i ≤ 1001 := by
  obtain ⟨G, hG⟩ := exG s.nodes (range_at ho)
  rw [wOf_G hG (range_at ho) hi]
  exact hG.range i
theorem weighs_right {s : ST} (h : rightM s = true) {i : Nat} (hi : i < s.nodes.length) : wOf s.nodes i ≤ 1000 := by
  have ho := right_ordered h
  obtain ⟨G, hG⟩ := exG s.nodes (range_at ho)
  rw [wOf_G hG (range_at ho) hi]
  unfold rightM at h
  simp only [Bool.and_eq_true] at h
  have hz : ∀ (j : Nat) (v : Int), (List.replicate s.nodes.length (0 : Int))[j]? = some v → v = 0 := fun j v hj => (List.mem_replicate.1 (List.mem_of_getElem? hj)).2
  exact rightL_G hG (range_at ho) s.nodes 0 _ (by simp) (by simp) (fun x hx => by obtain rfl := (List.mem_replicate.1 hx).2; decide) (fun j v hj hv => by have := hz j v hj; omega) (fun j v hj => by have := hz j v hj; omega) h.2.1 i (Nat.zero_le _) hi

set_option maxRecDepth 100000 in
set_option maxHeartbeats 3200000 in
theorem weighs_told (s : ST) : Told Tryz.prog 3 [s.av] (.c (.v (.bool true))) := by
  have hG := sgreat_told s
  simp only [ST.av_eq, scells_mk, List.map_cons, List.map_nil] at hG
  by_cases hg : 2500 < sbulk s
  · have e0 : decide (2500 < (sbulk s : Int)) = true := by simp; omega
    rw [e0] at hG
    rw [ST.av_eq, scells_mk]
    refine VC.told ent_3 Tryz.func3 rfl Tryz.ntmps3 (by simp) (by first | rfl | simp [AV.pureB, AV.pureL, pureL_c, pures]) (by first | rfl | simp [AV.pureB, AV.pureL, pureL_c, pures]) fun hb => ?_
    clear hb
    refine walkG ?_
    refine walkC (works10_told) ?_
    refine walkB ?_
    refine walkC (hG) ?_
    refine walkB ?_
    refine ⟨by first | exact .inr rfl | exact .inl rfl, ?_⟩; rw [Tryz.results3]; simp only [resOk, resV, go_sem, Int.reduceBEq, Int.reduceLE, Int.reduceLT, Int.reduceNeg, Nat.reduceAdd, Nat.reduceEqDiff, Nat.reduceLT, Nat.reduceLeDiff, Nat.reduceMul, Nat.reduceSub, reduceCtorEq, ↓reduceIte]
    exact .c _
  have e0 : decide (2500 < (sbulk s : Int)) = false := by simp; omega
  rw [e0] at hG
  have hsm := ssm_le' (sbulk_sm (s := s) (by omega))
  by_cases hp : s.nodes.length = 0
  · have f1 : ((s.nodes.length : Int) == 0) = true := by rw [hp]; rfl
    rw [ST.av_eq, scells_mk]
    refine VC.told ent_3 Tryz.func3 rfl Tryz.ntmps3 (by simp) (by first | rfl | simp [AV.pureB, AV.pureL, pureL_c, pures]) (by first | rfl | simp [AV.pureB, AV.pureL, pureL_c, pures]) fun hb => ?_
    clear hb
    refine walkG ?_
    refine walkC (works10_told) ?_
    refine walkB ?_
    refine walkC (hG) ?_
    refine walkBF (f1) ?_
    refine ⟨by first | exact .inr rfl | exact .inl rfl, ?_⟩; rw [Tryz.results3]; simp only [resOk, resV, go_sem, Int.reduceBEq, Int.reduceLE, Int.reduceLT, Int.reduceNeg, Nat.reduceAdd, Nat.reduceEqDiff, Nat.reduceLT, Nat.reduceLeDiff, Nat.reduceMul, Nat.reduceSub, reduceCtorEq, ↓reduceIte]
    exact .c _
  have hpos : 0 < s.nodes.length := by omega
  have f1 : ((s.nodes.length : Int) == 0) = false := by
    have : ¬ ((s.nodes.length : Int) = 0) := by omega
    simpa using this
  cases ho : orderedM s with
  | false =>
    have hW := sWeight_no s hsm ho hpos
    simp only [ST.av_eq, scells_mk, List.map_cons, List.map_nil] at hW
    rw [ST.av_eq, scells_mk]
    refine VC.told ent_3 Tryz.func3 rfl Tryz.ntmps3 (by simp) (by first | rfl | simp [AV.pureB, AV.pureL, pureL_c, pures]) (by first | rfl | simp [AV.pureB, AV.pureL, pureL_c, pures]) fun hb => ?_
    clear hb
    refine walkG ?_
    refine walkC (works10_told) ?_
    refine walkB ?_
    refine walkC (hG) ?_
    refine walkBF (f1) ?_
    refine walkC (hW) ?_
    refine walkB ?_
    refine ⟨by first | exact .inr rfl | exact .inl rfl, ?_⟩; rw [Tryz.results3]; simp only [resOk, resV, go_sem, Int.reduceBEq, Int.reduceLE, Int.reduceLT, Int.reduceNeg, Nat.reduceAdd, Nat.reduceEqDiff, Nat.reduceLT, Nat.reduceLeDiff, Nat.reduceMul, Nat.reduceSub, reduceCtorEq, ↓reduceIte]
    exact .c _
  | true =>
  have hR := sRight_told s hsm
  have hrt : ∀ i, i < s.nodes.length → rightM s = true → wOf s.nodes i ≤ 1000 := fun i hi h => weighs_right h hi
  obtain ⟨r, hr⟩ : ∃ r, r = rightM s := ⟨_, rfl⟩
  rw [← hr] at hR hrt
  clear hr
  have hWp : ∀ p, p < s.nodes.length → Told Tryz.prog 9 [.agg [.c (.sl 10 (s.nodes.map NT.cells)), .c (.v (.int .i64 s.root))], .c (.v (.int .i64 (p : Int)))] (.c (.v (.int .i64 (wOf s.nodes p)))) := fun p hp => by
    have := sWeight_yes s hsm ho p hp
    simp only [ST.av_eq, scells_mk, List.map_cons, List.map_nil] at this
    exact this
  have hfix : ∀ i, i < s.nodes.length → foldW (wOf s.nodes) (fieldsAt s.nodes i) 1 = wOf s.nodes i := fun i hi => weighs_fix ho hi
  have hrg : ∀ i, i < s.nodes.length → 1 ≤ wOf s.nodes i ∧ wOf s.nodes i ≤ 1001 := fun i hi => weighs_range ho hi
  have hrk := range_kinds ho
  generalize wOf s.nodes = w at hrt hWp hfix hrg
  have hW0 := hWp 0 hpos
  rw [show ((0 : Nat) : Int) = 0 from rfl] at hW0
  have f2 : (w 0 == 0) = false := by
    have := (hrg 0 hpos).1
    have : ¬ (w 0 = 0) := by omega
    simpa using this
  obtain ⟨hl, hs⟩ := hsm
  simp only [ST.av_eq, scells_mk, List.map_cons, List.map_nil] at hR
  rw [ST.av_eq, scells_mk]
  refine VC.told ent_3 Tryz.func3 rfl Tryz.ntmps3 (by simp) (by first | rfl | simp [AV.pureB, AV.pureL, pureL_c, pures]) (by first | rfl | simp [AV.pureB, AV.pureL, pureL_c, pures]) fun hb => ?_
  clear hb
  refine walkG ?_
  refine walkC (works10_told) ?_
  refine walkB ?_
  refine walkC (hG) ?_
  refine walkBF (f1) ?_
  refine walkC (hW0) ?_
  refine walkBF (f2) ?_
  refine walkC (hR) ?_
  refine walkG ?_
  clear hG hR hW0
  refine VC.loop (ι := {i : Nat // i ≤ s.nodes.length}) (fun q => [(1, .ref 0 1 0 0), (3, .c (.v (.bool r))), (27, .c (.sl 10 (s.nodes.map NT.cells))), (28, .c (.v (.int .i64 (s.nodes.length : Int)))), (29, .c (.v (.int .i64 (q.1 : Int))))])
    (fun _ => [(0, ⟨false, 24, 2, [[.c (.sl 10 (s.nodes.map NT.cells)), .c (.v (.int .i64 s.root))]]⟩)]) 800 (fun q => s.nodes.length - q.1) ⟨0, Nat.zero_le _⟩ ?_ ?_
  · simp only [Weak, eq_self, used_is, sc_any, sc_c, sc_pp, sc_ref, sc_row, sc_agg, sc_fn, ScL, some_imp, List.forall_mem_map, go_sem, Int.reduceBEq, Int.reduceLE, Int.reduceLT, Int.reduceNeg, Nat.reduceAdd, Nat.reduceEqDiff, Nat.reduceLT, Nat.reduceLeDiff, Nat.reduceMul, Nat.reduceSub, reduceCtorEq, ↓reduceIte]
  rintro ⟨i, hi⟩
  simp only []
  refine walkG ?_
  refine VC.cond (by rfl) (by trivial) (fun hc => ?_) (fun hc => ?_)
  · have hlt : i < s.nodes.length := by simp at hc; omega
    obtain ⟨n, hn⟩ : ∃ n, s.nodes[i]? = some n := ⟨s.nodes[i], List.getElem?_eq_getElem hlt⟩
    have hmem := List.mem_of_getElem? hn
    have hnp : (s.nodes.map NT.cells)[i]? = some n.cells := by rw [List.getElem?_map, hn]; rfl
    have hwi : IntKind.i64.wrap ((i : Int) + 1) = (i : Int) + 1 := wrap64_id (by omega) (by omega)
    have hKd := kids_told n (hs n hmem)
    have hkl := kids_len (hs n hmem)
    simp only [NT.av_eq, ncells_mk, List.map_cons, List.map_nil] at hKd
    have hT : (if n.kind = 9 then foldW w n.fields 1 else 1) = w i := by
      rw [← hfix i hlt, fieldsAt, hn]
      simp only []
      split <;> rfl
    obtain ⟨ks, hks⟩ : ∃ ks, ks = kidsN n := ⟨_, rfl⟩
    rw [← hks] at hKd hkl
    refine walkGF (And.intro hnp @ncells_mk) ?_
    refine walkC (hKd) ?_
    refine walkG ?_
    refine VC.loop (ι := {y : Nat × Int // y.1 ≤ ks.length ∧ 1 ≤ y.2 ∧ y.2 ≤ 1001 ∧ (if n.kind = 9 then foldW w (n.fields.drop y.1) y.2 else y.2) = w i})
      (fun q => [(1, .ref 0 1 0 0), (3, .c (.v (.bool r))), (4, .c (.v (.int .i64 (i : Int)))), (5, .ref 832 1 0 0), (6, .c (.v (.int .i64 q.1.2))), (27, .c (.sl 10 (s.nodes.map NT.cells))), (28, .c (.v (.int .i64 (s.nodes.length : Int)))), (29, .c (.v (.int .i64 (i : Int)))), (35, .c (.sl 1 (ks.map iPV))), (36, .c (.v (.int .i64 (ks.length : Int)))), (37, .c (.v (.int .i64 (q.1.1 : Int))))])
      (fun _ => [(0, ⟨false, 24, 2, [[.c (.sl 10 (s.nodes.map NT.cells)), .c (.v (.int .i64 s.root))]]⟩), (832, ⟨false, 32, 10, [n.cells.map .c]⟩)]) 4000 (fun q => ks.length - q.1.1)
      ⟨(0, 1), Nat.zero_le _, by simp only []; omega, by simp only []; omega, by simp only [List.drop_zero]; exact hT⟩ ?_ ?_
    · simp only [ncells_mk, Weak, eq_self, used_is, sc_any, sc_c, sc_pp, sc_ref, sc_row, sc_agg, sc_fn, ScL, some_imp, List.forall_mem_map, go_sem, Int.reduceBEq, Int.reduceLE, Int.reduceLT, Int.reduceNeg, Nat.reduceAdd, Nat.reduceEqDiff, Nat.reduceLT, Nat.reduceLeDiff, Nat.reduceMul, Nat.reduceSub, reduceCtorEq, ↓reduceIte]
    clear hKd hT
    rintro ⟨⟨q, m⟩, hq, hm1, hm2, hT⟩
    simp only [] at hq hm1 hm2 hT ⊢
    refine walkG ?_
    refine VC.cond (by rfl) (by trivial) (fun hc2 => ?_) (fun hc2 => ?_)
    · have hql : q < ks.length := by simp at hc2; omega
      obtain ⟨k, hk⟩ : ∃ k, ks[q]? = some k := ⟨ks[q], List.getElem?_eq_getElem hql⟩
      have hkp : (ks.map iPV)[q]? = some (iPV k) := by rw [List.getElem?_map, hk]; rfl
      have hwq : IntKind.i64.wrap ((q : Int) + 1) = (q : Int) + 1 := wrap64_id (by omega) (by omega)
      by_cases h9 : n.kind = 9
      · have e9 : (n.kind == 9) = true := by simpa using h9
        rw [if_pos h9] at hT
        have hke : ks = n.fields.map (·.type) := by rw [hks, kidsN, if_pos h9]
        rw [hke, List.getElem?_map] at hk
        cases hf : n.fields[q]? with
        | none => rw [hf] at hk; simp at hk
        | some f =>
          rw [hf] at hk
          obtain rfl : f.type = k := Option.some.inj hk
          obtain ⟨k0, k1⟩ := hrk n hmem h9 f (List.mem_of_getElem? hf)
          obtain ⟨j, hj⟩ : ∃ j : Nat, f.type = (j : Int) := ⟨f.type.toNat, by omega⟩
          have hWj := hWp j (by omega)
          obtain ⟨g1, g2⟩ := hrg j (by omega)
          have hww : IntKind.i64.wrap (m + w j) = m + w j := wrap64_id (by omega) (by omega)
          have hfl : q < n.fields.length := (List.getElem?_eq_some_iff.1 hf).1
          rw [(List.drop_eq_getElem_cons hfl).trans (by rw [(List.getElem?_eq_some_iff.1 hf).2]), foldW, hj, Int.toNat_natCast] at hT
          refine walkBF (And.intro hkp (And.intro @iPV_eq (And.intro @ncells_mk (And.intro e9 hj)))) ?_
          refine walkC (hWj) ?_
          refine walkGF (And.intro hww hwq) ?_
          refine .next ⟨(q + 1, min (m + w j) 1001), by simp only []; omega, by simp only []; omega, by simp only []; omega, by simp only []; rw [if_pos h9]; exact hT⟩ ?_ (by simp only []; omega)
          simp only [ncells_mk, Weak, eq_self, used_is, sc_any, sc_c, sc_pp, sc_ref, sc_row, sc_agg, sc_fn, ScL, some_imp, List.forall_mem_map, go_sem, Int.reduceBEq, Int.reduceLE, Int.reduceLT, Int.reduceNeg, Nat.reduceAdd, Nat.reduceEqDiff, Nat.reduceLT, Nat.reduceLeDiff, Nat.reduceMul, Nat.reduceSub, reduceCtorEq, ↓reduceIte]
          try exact cI (by omega)
      · have e9 : (n.kind == 9) = false := by simpa using h9
        rw [if_neg h9] at hT
        refine walkBF (And.intro hkp (And.intro @iPV_eq (And.intro @ncells_mk (And.intro e9 hwq)))) ?_
        refine .next ⟨(q + 1, m), by simp only []; omega, hm1, hm2, by simp only []; rw [if_neg h9]; exact hT⟩ ?_ (by simp only []; omega)
        simp only [ncells_mk, Weak, eq_self, used_is, sc_any, sc_c, sc_pp, sc_ref, sc_row, sc_agg, sc_fn, ScL, some_imp, List.forall_mem_map, go_sem, Int.reduceBEq, Int.reduceLE, Int.reduceLT, Int.reduceNeg, Nat.reduceAdd, Nat.reduceEqDiff, Nat.reduceLT, Nat.reduceLeDiff, Nat.reduceMul, Nat.reduceSub, reduceCtorEq, ↓reduceIte]
        try exact cI (by omega)
    · have hqe : q = ks.length := by simp at hc2; omega
      have hm : m = w i := by
        by_cases h9 : n.kind = 9
        · rw [if_pos h9] at hT
          have hke : ks = n.fields.map (·.type) := by rw [hks, kidsN, if_pos h9]
          have : n.fields.length ≤ q := by rw [hqe, hke, List.length_map]; exact Nat.le_refl _
          rw [List.drop_of_length_le this, foldW] at hT
          exact hT
        · rw [if_neg h9] at hT
          exact hT
      subst hm
      have hWi := hWp i hlt
      have hne : (w i != w i) = false := by simp
      cases r with
      | false =>
        refine walkG ?_
        refine walkC (hWi) ?_
        refine walkBF (And.intro hne hwi) ?_
        refine .next ⟨i + 1, by omega⟩ ?_ (by simp only []; omega)
        simp only [Weak, eq_self, used_is, sc_any, sc_c, sc_pp, sc_ref, sc_row, sc_agg, sc_fn, ScL, some_imp, List.forall_mem_map, go_sem, Int.reduceBEq, Int.reduceLE, Int.reduceLT, Int.reduceNeg, Nat.reduceAdd, Nat.reduceEqDiff, Nat.reduceLT, Nat.reduceLeDiff, Nat.reduceMul, Nat.reduceSub, reduceCtorEq, ↓reduceIte]
        try exact cI (by omega)
      | true =>
        have h1000 : decide (w i > 1000) = false := by
          rw [decide_eq_false_iff_not]
          have := hrt i hlt rfl
          omega
        refine walkG ?_
        refine walkC (hWi) ?_
        refine walkBF (And.intro hne (And.intro h1000 hwi)) ?_
        refine .next ⟨i + 1, by omega⟩ ?_ (by simp only []; omega)
        simp only [Weak, eq_self, used_is, sc_any, sc_c, sc_pp, sc_ref, sc_row, sc_agg, sc_fn, ScL, some_imp, List.forall_mem_map, go_sem, Int.reduceBEq, Int.reduceLE, Int.reduceLT, Int.reduceNeg, Nat.reduceAdd, Nat.reduceEqDiff, Nat.reduceLT, Nat.reduceLeDiff, Nat.reduceMul, Nat.reduceSub, reduceCtorEq, ↓reduceIte]
        try exact cI (by omega)
  · refine walkG ?_
    refine ⟨by first | exact .inr rfl | exact .inl rfl, ?_⟩; rw [Tryz.results3]; simp only [resOk, resV, go_sem, Int.reduceBEq, Int.reduceLE, Int.reduceLT, Int.reduceNeg, Nat.reduceAdd, Nat.reduceEqDiff, Nat.reduceLT, Nat.reduceLeDiff, Nat.reduceMul, Nat.reduceSub, reduceCtorEq, ↓reduceIte]
    exact .c _

end Go.Proofs.YtmmffaelkoinlaaGreatDoor
