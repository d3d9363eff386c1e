/- schema: Same, as a contract. -/
import Derived.Test.YtmmffaelkoinlaaGreatDoorNm
import Derived.Test.YtmmffaelkoinlaaGreatDoorEq
import Derived.Test.YtmmffaelkoinlaaGreatDoorSg
namespace Go.Proofs.YtmmffaelkoinlaaGreatDoor
open Go.RowKit
set_option linter.unusedVariables false
set_option linter.unusedSimpArgs false
attribute [local go_sem] opx opE ev okx gcond bnd okO AV.get AV.okb cAV upd_at putd_some putd_none wrs_nil wrs_cons look_nil look_cons st argT_at bpick_and bpick_or bpick_true bpick_false binV binI binS binVOk binOk isShift binSOk unV unVOk loadV loadP cellsA zeroA Blkd.len setE grown moreA moreR moreOk eqRes pv fillA fillE putSeg AV.cellish AV.pureL AV.pureB lentL_is ex_some AV.ren AV.renL renL_c Blkd.ren rho wrM renN lentOk rhoE keepM endOk tyA_2 tyA_3 tyA_4 tyA_5 tyA_6 tyA_7 tyA_8 tyA_9 tyA_10 tyA_11 tyA_12 tyA_13 tyA_14 tyA_15 tyA_16 tyA_17 tyA_18 tyA_19 tyA_21 tyA_22 tyA_23 tyA_24 tyA_28 tyA_29 tyA_30 tyA_31 tyA_32 tyA_34 tyA_35 tyA_36 tyA_37 tyA_38 tyA_42 tyA_47 tyA_48 tyA_49 tyA_50 tyA_51 tyA_81 tyA_85 tyA_89 tyA_90 tyA_91 tyA_98 tyA_110 tyA_111 tyA_112 tyA_113 tyA_114 tyA_119 tyA_130 tyA_160 tyA_163 tyA_165 tyA_171 tyA_181 tyA_185 tyA_187 tyA_191 tyA_192 tyA_193 tyA_194 tyA_195 tyA_197 tyA_198 tyA_200 tyA_201 tyA_202 tyA_205 Option.map_some Option.map_none Option.getD_some Option.getD_none Option.bind_some Option.bind_none List.getElem?_cons_zero List.getElem?_cons_succ List.getElem?_nil List.getElem?_toArray List.length_cons List.length_nil List.length_map List.forall_mem_map List.map_cons List.map_nil List.drop_zero List.drop_succ_cons List.drop_nil List.take_zero List.take_succ_cons List.take_nil List.mem_cons List.not_mem_nil or_false forall_eq_or_imp forall_eq List.set_cons_zero List.set_cons_succ List.cons_append List.nil_append List.append_nil List.foldl_cons List.foldl_nil List.replicate_succ List.replicate_zero List.all_cons List.all_nil if_true if_false Bool.false_eq_true ne_eq not_false_eq_true not_true_eq_false true_and and_true and_self true_implies imp_self implies_true forall_const beq_self_eq_true Bool.and_true Bool.true_and Bool.and_false Bool.false_and Bool.or_true Bool.true_or Bool.or_false Bool.false_or Bool.not_true Bool.not_false Bool.not_eq_eq_eq_not intKindOf Value.oneCell' Int.toNat_natCast beq_true beq_false Bool.not_eq_true false_implies false_or true_or or_true Nat.zero_add Nat.add_zero decide_true decide_false Int.cast_ofNat_Int Int.toNat_zero Int.toNat_one eq_self

theorem ceq_field (a b : FT) : ceq a b = ((((a.name == b.name) && (a.aliases == b.aliases)) && (a.type == b.type)) && (a.has == b.has) && jeq a.dflt b.dflt) := by
  rw [Bool.eq_iff_iff]
  simp only [ceq_iff, Bool.and_eq_true, beq_iff_eq, jeq_iff]
  constructor
  · rintro rfl
    exact ⟨⟨⟨⟨rfl, rfl⟩, rfl⟩, rfl⟩, rfl⟩
  · rintro ⟨⟨⟨⟨h1, h2⟩, h3⟩, h4⟩, h5⟩
    cases a
    cases b
    simp_all
theorem ceq_node (a b : NT) : ceq a b = ((((((((((a.kind == b.kind) && (a.name == b.name)) && (a.aliases == b.aliases)) && ceq a.fields b.fields) && (a.symbols == b.symbols)) && (a.has == b.has)) && (a.dflt == b.dflt)) && (a.size == b.size)) && (a.items == b.items)) && (a.branches == b.branches)) := by
  rw [Bool.eq_iff_iff]
  simp only [ceq_iff, Bool.and_eq_true, beq_iff_eq]
  constructor
  · rintro rfl
    simp
  · rintro ⟨⟨⟨⟨⟨⟨⟨⟨⟨h1, h2⟩, h3⟩, h4⟩, h5⟩, h6⟩, h7⟩, h8⟩, h9⟩, h10⟩
    cases a
    cases b
    simp_all
theorem ceq_schema (a b : ST) : ceq a b = ((a.root == b.root) && ceq a.nodes b.nodes) := by
  rw [Bool.eq_iff_iff]
  simp only [ceq_iff, Bool.and_eq_true, beq_iff_eq]
  constructor
  · rintro rfl
    simp
  · rintro ⟨h1, h2⟩
    cases a
    cases b
    simp_all
set_option maxRecDepth 100000 in
set_option maxHeartbeats 800000 in
theorem same1_told (a b : FT) : Told Tryz.prog 44 [a.av, b.av] (.c (.v (.bool (ceq a b)))) := by
  have hA := sequal_told a.aliases b.aliases
  have hJ := same_told _ a.dflt b.dflt (Nat.le_refl _)
  simp only [JT.av_eq] at hJ
  have hV := ceq_field a b
  obtain ⟨V, hVV⟩ : ∃ V, V = ceq a b := ⟨_, rfl⟩
  rw [← hVV] at hV ⊢
  clear hVV
  generalize (a.aliases == b.aliases) = b1 at hA hV
  generalize jeq a.dflt b.dflt = b2 at hJ hV
  replace hV := Lib.hid hV
  rw [FT.av_eq, FT.av_eq, fcells_mk, fcells_mk]
  refine VC.told ent_44 Tryz.func44 rfl Tryz.ntmps44 (by simp) (by first | rfl | simp [AV.pureB, AV.pureL, pureL_c, pures]) (by first | rfl | simp [AV.pureB, AV.pureL, pureL_c, pures]) fun hb => ?_
  clear hb
  refine walkGF (And.intro @len_cells (And.intro @take_cells (And.intro @take_cellsC @str_toList))) ?_
  refine walkD (hA) ?_
  refine walkGF (And.intro @len_cells (And.intro @take_cells @take_cellsC)) ?_
  refine walkDF (@pureL_c) (hJ) ?_
  refine walkG ?_
  refine ⟨by first | exact .inr rfl | exact .inl rfl, ?_⟩; rw [Tryz.results44]; simp only [resOk, resV, go_sem, Int.reduceBEq, Int.reduceLE, Int.reduceLT, Int.reduceNeg, Nat.reduceAdd, Nat.reduceEqDiff, Nat.reduceLT, Nat.reduceLeDiff, Nat.reduceMul, Nat.reduceSub, reduceCtorEq, ↓reduceIte]
  rw [hV.out]
  exact .c _
theorem tyFnF : tyA Tryz.prog 75 = some ⟨false, 1, 8, [.nilFunc], 0, [], 0, []⟩ := by kernel_rfl
set_option maxRecDepth 100000 in
set_option maxHeartbeats 800000 in
theorem same2_told (a b : NT) : Told Tryz.prog 48 [a.av, b.av, .pp [fnP 44]] (.c (.v (.bool (ceq a b)))) := by
  have hA := sequal_told a.aliases b.aliases
  have hF := eqfFp_told (g := 44) a.fields b.fields fun x _ y => same1_told x y
  have hS := sequal_told a.symbols b.symbols
  have hB := iequal_told a.branches b.branches
  have hV := ceq_node a b
  obtain ⟨V, hVV⟩ : ∃ V, V = ceq a b := ⟨_, rfl⟩
  rw [← hVV] at hV ⊢
  clear hVV
  generalize (a.aliases == b.aliases) = b1 at hA hV
  generalize ceq a.fields b.fields = b2 at hF hV
  generalize (a.symbols == b.symbols) = b3 at hS hV
  generalize (a.branches == b.branches) = b4 at hB hV
  replace hV := Lib.hid hV
  rw [NT.av_eq, NT.av_eq, ncells_mk, ncells_mk]
  unfold fnP
  refine VC.told ent_48 Tryz.func48 rfl Tryz.ntmps48 (by simp) (by first | rfl | simp [AV.pureB, AV.pureL, pureL_c, pures]) (by first | rfl | simp [AV.pureB, AV.pureL, pureL_c, pures]) fun hb => ?_
  clear hb
  refine walkGF (@str_toList) ?_
  refine walkD (hA) ?_
  refine walkGF (tyFnF) ?_
  refine walkDF (tyFnF) (hF) ?_
  refine walkG ?_
  refine walkD (hS) ?_
  refine walkGF (@str_toList) ?_
  refine walkD (hB) ?_
  refine walkG ?_
  refine ⟨by first | exact .inr rfl | exact .inl rfl, ?_⟩; rw [Tryz.results48]; simp only [resOk, resV, go_sem, Int.reduceBEq, Int.reduceLE, Int.reduceLT, Int.reduceNeg, Nat.reduceAdd, Nat.reduceEqDiff, Nat.reduceLT, Nat.reduceLeDiff, Nat.reduceMul, Nat.reduceSub, reduceCtorEq, ↓reduceIte]
  rw [hV.out]
  exact .c _
set_option maxRecDepth 100000 in
set_option maxHeartbeats 800000 in
theorem sSame_told (a b : ST) : Told Tryz.prog 21 [a.av, b.av] (.c (.v (.bool (ceq a b)))) := by
  have hN := eqfN_told (g := 48) (fs := []) (cs := [.pp [fnP 44]]) rfl rfl a.nodes b.nodes fun x _ y => same2_told x y
  have hV := ceq_schema a b
  obtain ⟨V, hVV⟩ : ∃ V, V = ceq a b := ⟨_, rfl⟩
  rw [← hVV] at hV ⊢
  clear hVV
  generalize ceq a.nodes b.nodes = b1 at hN hV
  replace hV := Lib.hid hV
  rw [ST.av_eq, ST.av_eq, scells_mk, scells_mk]
  refine VC.told ent_21 Tryz.func21 rfl Tryz.ntmps21 (by simp) (by first | rfl | simp [AV.pureB, AV.pureL, pureL_c, pures]) (by first | rfl | simp [AV.pureB, AV.pureL, pureL_c, pures]) fun hb => ?_
  clear hb
  (refine VC.seq ?_; (first | refine VC.region (by rfl) (by rfl) ?_ | refine VC.draw mixP (by rfl) (by rfl) ?_); (repeat (refine AO.step fun K hK => ?_; simp only [go_sem, Int.reduceBEq, Int.reduceLE, Int.reduceLT, Int.reduceNeg, Nat.reduceAdd, Nat.reduceEqDiff, Nat.reduceLT, Nat.reduceLeDiff, Nat.reduceMul, Nat.reduceSub, reduceCtorEq, ↓reduceIte]; (first | refine gsel_skip ?_ | refine gsel_go ?_ | skip); (first | refine hK _ _ _ ?_ | refine ⟨by first | omega | exact ⟨_, rfl, rfl⟩ | exact fun _ => ⟨_, rfl, rfl⟩ | (intro h; simp only [h, true_and]; omega) | (clear hK; intro h; simp_all <;> omega), hK _ _ _ ?_⟩); clear hK K)); refine AO.nil ?_; first | refine SQ.normal ?_ | refine ⟨okd_of (by kernel_rfl), SQ.normal ?_⟩)
  (refine VC.seq ?_; (first | refine VC.region (by rfl) (by rfl) ?_ | refine VC.draw mixP (by rfl) (by rfl) ?_); (repeat (refine AO.step fun K hK => ?_; simp only [tyFnF, go_sem, Int.reduceBEq, Int.reduceLE, Int.reduceLT, Int.reduceNeg, Nat.reduceAdd, Nat.reduceEqDiff, Nat.reduceLT, Nat.reduceLeDiff, Nat.reduceMul, Nat.reduceSub, reduceCtorEq, ↓reduceIte]; (first | refine gsel_skip ?_ | refine gsel_go ?_ | skip); (first | refine hK _ _ _ ?_ | refine ⟨by first | omega | exact ⟨_, rfl, rfl⟩ | exact fun _ => ⟨_, rfl, rfl⟩ | (intro h; simp only [tyFnF, h, true_and]; omega) | (clear hK; intro h; simp_all <;> omega), hK _ _ _ ?_⟩); clear hK K)); refine AO.nil ?_; first | refine SQ.normal ?_ | refine ⟨okd_of (by kernel_rfl), SQ.normal ?_⟩)
  refine VC.frz [] [(2, .ref 0 1 0 0), (3, .ref 8 1 0 0), (5, .ref 24 1 0 0)] [(0, ⟨false, 24, 2, [[.c (.sl 10 (a.nodes.map NT.cells)), .c (.v (.int .i64 a.root))]]⟩), (8, ⟨false, 24, 2, [[.c (.sl 10 (b.nodes.map NT.cells)), .c (.v (.int .i64 b.root))]]⟩), (24, ⟨false, 75, 1, [[.c (fnP 44)]]⟩)] 400 ?_ ?_
  · simp only [WeakF, used_is, sc_any, sc_c, sc_pp, sc_ref, sc_row, sc_agg, sc_fn, ScL, some_imp, List.forall_mem_map, go_sem, Int.reduceBEq, Int.reduceLE, Int.reduceLT, Int.reduceNeg, Nat.reduceAdd, Nat.reduceEqDiff, Nat.reduceLT, Nat.reduceLeDiff, Nat.reduceMul, Nat.reduceSub, reduceCtorEq, ↓reduceIte]
    exact ⟨⟨.same _, .same _, .same _⟩, .same _, .same _, .one (.cons .fnV .nil) (by simp [AV.cellish])⟩
  refine walkG ?_
  (refine AO.step fun K hK => ?_; simp only [go_sem, Int.reduceBEq, Int.reduceLE, Int.reduceLT, Int.reduceNeg, Nat.reduceAdd, Nat.reduceEqDiff, Nat.reduceLT, Nat.reduceLeDiff, Nat.reduceMul, Nat.reduceSub, reduceCtorEq, ↓reduceIte]; (first | refine gsel_go ?_ | skip))
  refine .inr (.inl ⟨.c (.v (.bool b1)), [.c (.sl 10 (a.nodes.map NT.cells)), .c (.sl 10 (b.nodes.map NT.cells)), .fn (.func 48) [] [.pp [fnP 44]]], [24], fun hg => ⟨by simpa using hg, by rfl, rfl, fun k x z h5 h6 => ?_, rfl, hN⟩, hK _ _ _ ?_⟩)
  · match k with
    | 0 => obtain rfl := Option.some.inj h5; obtain rfl := Option.some.inj h6; exact .same _
    | 1 => obtain rfl := Option.some.inj h5; obtain rfl := Option.some.inj h6; exact .same _
    | 2 =>
      obtain rfl := Option.some.inj h5
      obtain rfl := Option.some.inj h6
      refine .fn rfl (by simp) rfl fun k x z h7 h8 => ?_
      match k with
      | 0 => obtain rfl := Option.some.inj h7; obtain rfl := Option.some.inj h8; exact View.ref (es := [fnP 44]) rfl rfl rfl rfl
      | k + 1 => simp at h7
    | k + 3 => simp at h5
  clear hK K
  refine walkG ?_
  refine ⟨by first | exact .inr rfl | exact .inl rfl, ?_⟩; rw [Tryz.results21]; simp only [resOk, resV, go_sem, Int.reduceBEq, Int.reduceLE, Int.reduceLT, Int.reduceNeg, Nat.reduceAdd, Nat.reduceEqDiff, Nat.reduceLT, Nat.reduceLeDiff, Nat.reduceMul, Nat.reduceSub, reduceCtorEq, ↓reduceIte]
  rw [hV.out]
  exact .c _

end Go.Proofs.YtmmffaelkoinlaaGreatDoor
