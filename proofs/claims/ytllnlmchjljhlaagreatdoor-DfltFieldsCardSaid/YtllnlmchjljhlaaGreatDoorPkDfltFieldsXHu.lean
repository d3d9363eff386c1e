/- The document's say, of what has no items, as contracts. -/
import Derived.Test.YtllnlmchjljhlaaGreatDoorPkDfltFieldsF
namespace Go.Proofs.YtllnlmchjljhlaaGreatDoor
open Go.RowKit
set_option linter.unusedVariables false
set_option linter.unusedSimpArgs false
attribute [local go_sem] opx opE ev okx gcond bnd okO AV.get AV.okb cAV upd_at putd_some putd_none wrs_nil wrs_cons look_nil look_cons st argT_at bpick_and bpick_or bpick_true bpick_false binV binI binS binVOk binOk isShift binSOk unV unVOk loadV loadP cellsA zeroA Blkd.len setE grown moreA moreR moreOk eqRes pv fillA fillE putSeg AV.cellish AV.pureL AV.pureB lentL_is ex_some AV.ren AV.renL renL_c Blkd.ren rho wrM renN lentOk rhoE keepM endOk tyA_2 tyA_3 tyA_4 tyA_5 tyA_6 tyA_7 tyA_8 tyA_9 tyA_10 tyA_11 tyA_12 tyA_13 tyA_14 tyA_15 tyA_16 tyA_17 tyA_18 tyA_19 tyA_21 tyA_22 tyA_23 tyA_24 tyA_29 tyA_30 tyA_31 tyA_32 tyA_33 tyA_34 tyA_35 tyA_36 tyA_37 tyA_38 tyA_39 tyA_40 tyA_41 tyA_42 tyA_43 tyA_49 tyA_85 tyA_89 tyA_99 tyA_100 tyA_101 tyA_105 tyA_106 tyA_107 tyA_108 tyA_109 tyA_111 tyA_112 tyA_113 tyA_114 tyA_123 tyA_126 tyA_127 tyA_128 tyA_129 tyA_130 tyA_153 tyA_163 tyA_164 tyA_165 tyA_179 tyA_185 tyA_191 tyA_192 tyA_193 tyA_194 tyA_195 tyA_196 tyA_209 tyA_213 tyA_214 tyA_215 tyA_241 tyA_248 tyA_274 tyA_275 tyA_276 tyA_292 tyA_294 tyA_302 tyA_307 tyA_315 tyA_319 tyA_321 tyA_324 tyA_325 tyA_326 tyA_327 tyA_328 tyA_329 tyA_330 tyA_332 tyA_333 Option.map_some Option.map_none Option.getD_some Option.getD_none Option.bind_some Option.bind_none List.getElem?_cons_zero List.getElem?_cons_succ List.getElem?_nil List.getElem?_toArray List.length_cons List.length_nil List.length_map List.forall_mem_map List.map_cons List.map_nil List.drop_zero List.drop_succ_cons List.drop_nil List.take_zero List.take_succ_cons List.take_nil List.mem_cons List.not_mem_nil or_false forall_eq_or_imp forall_eq List.set_cons_zero List.set_cons_succ List.cons_append List.nil_append List.append_nil List.foldl_cons List.foldl_nil List.replicate_succ List.replicate_zero List.all_cons List.all_nil if_true if_false Bool.false_eq_true ne_eq not_false_eq_true not_true_eq_false true_and and_true and_self true_implies imp_self implies_true forall_const beq_self_eq_true Bool.and_true Bool.true_and Bool.and_false Bool.false_and Bool.or_true Bool.true_or Bool.or_false Bool.false_or Bool.not_true Bool.not_false Bool.not_eq_eq_eq_not intKindOf Value.oneCell' Int.toNat_natCast beq_true beq_false Bool.not_eq_true false_implies false_or true_or or_true Nat.zero_add Nat.add_zero decide_true decide_false Int.cast_ofNat_Int Int.toNat_zero Int.toNat_one eq_self

set_option maxRecDepth 100000 in
set_option maxHeartbeats 3200000 in
theorem rs_714 (s : ST) (q : Nat) (n : NT) (hn : s.nodes[q]? = some n) (j : JT) (dep lf : Int) (hl0 : -1000 ≤ lf) (hl1 : lf ≤ 1000) (hk : n.kind = 7 ∨ n.kind = 14) (h : ¬ lf - 1 < 0) (hj : JOk j) : Told Tryz.prog 69 [s.av, .c (.v (.int .i64 (q : Int))), j.av, .c (.v (.int .i64 dep)), .c (.v (.int .i64 lf))] (.tup [(VT.mk n.kind 0 0 ((latF j.txt 0).getD []) [] []).av, .c (.v (.int .i64 (lft (textS n j).2 (lf - 1))))]) := by
  have hql := (List.getElem?_eq_some_iff.1 hn).1
  have hxp : (s.nodes.map NT.cells)[q]? = some n.cells := by rw [List.getElem?_map, hn]; rfl
  have hw : IntKind.i64.wrap (lf - 1) = lf - 1 := wrap64_id (by omega) (by omega)
  have e1 : decide (lf - 1 < 0) = false := by simp; omega
  rw [JT.av_eq, ST.av_eq, VT.av_eq]
  have ht : j.txt.length ≤ 1000000 := by
    cases j with
    | mk k m s ks xs =>
      have h3 := hj.2.2
      simp only [JT.sm] at h3
      exact h3.1
  have hL := rlatin_told j.txt ht
  obtain ⟨b1, h1⟩ : ∃ q : Bool, q = (j.kd == 4) := ⟨_, rfl⟩
  have hok : (textS n j).2 = (b1 && ((latF j.txt 0).isSome && (decide ((((latF j.txt 0).getD []).length : Int) ≤ 20000) && (n.kind == 7 || (((latF j.txt 0).getD []).length : Int) == n.size)))) := by
    unfold textS
    by_cases h4 : j.kd = 4
    · rw [if_pos h4, if_neg (by omega), h1, h4]
      cases latF j.txt 0 with
      | none => rfl
      | some b =>
        simp only [Option.getD_some, Option.isSome_some, beq_self_eq_true, Bool.true_and]
        congr 1
        exact decide_eq_decide.2 (by omega)
    · rw [if_neg h4, h1, show (j.kd == 4) = false by simpa using h4]
      rfl
  rw [hok]
  generalize (latF j.txt 0).getD [] = o at *
  generalize (latF j.txt 0).isSome = sm at *
  have hlen : (bytePV o).length = o.length := by simp [bytePV]
  obtain ⟨b2, h2⟩ : ∃ q : Bool, q = decide ((o.length : Int) ≤ 20000) := ⟨_, rfl⟩
  obtain ⟨b3, h3⟩ : ∃ q : Bool, q = ((o.length : Int) == n.size) := ⟨_, rfl⟩
  rw [← h2, ← h3]
  clear hok
  have hcs : b1 = false ∨ (b1 = true ∧ sm = false) ∨ (b1 = true ∧ sm = true ∧ b2 = false) ∨ (b1 = true ∧ sm = true ∧ b2 = true ∧ b3 = false) ∨ (b1 = true ∧ sm = true ∧ b2 = true ∧ b3 = true) := by
    cases b1 <;> cases sm <;> cases b2 <;> cases b3 <;> simp
  rcases hk with hk | hk <;> rw [hk] <;> rcases hcs with rfl | ⟨rfl, rfl⟩ | ⟨rfl, rfl, rfl⟩ | ⟨rfl, rfl, rfl, rfl⟩ | ⟨rfl, rfl, rfl, rfl⟩
  all_goals
    refine VC.told ent_69 Tryz.func69 rfl Tryz.ntmps69 (by simp) (by first | rfl | simp [AV.pureB, AV.pureL, pureL_c, pures]) (by first | rfl | simp [AV.pureB, AV.pureL, pureL_c, pures]) fun hb => ?_
    clear hb
    refine walkBF (And.intro hxp (And.intro @ncells_mk (And.intro @scells_mk (And.intro hw (And.intro hk (And.intro e1 (And.intro @jcells_acc (And.intro h1.symm h2.symm)))))))) ?_
    refine walkC (hL) ?_
    refine walkBF (And.intro @ncells_mk (And.intro hk (And.intro @jcells_acc (And.intro hlen (And.intro h1.symm (And.intro h2.symm h3.symm)))))) ?_
    refine ⟨by first | exact .inr rfl | exact .inl rfl, ?_⟩; rw [Tryz.results69]; simp only [resOk, resV, go_sem, simprocAttr]
    exact ⟨frz_vb _ _ _ _, .c _⟩
