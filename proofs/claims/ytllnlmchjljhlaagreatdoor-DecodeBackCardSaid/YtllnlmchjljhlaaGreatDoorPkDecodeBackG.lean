/- Texts that lead to the law DecodeBack, joined. -/
import Derived.Test.YtllnlmchjljhlaaGreatDoorPkDecodeBackF
import Derived.Test.YtllnlmchjljhlaaGreatDoorPkDecodeBackE
import Derived.Test.YtllnlmchjljhlaaGreatDoorPkDecodeBackD
import Derived.Test.YtllnlmchjljhlaaGreatDoorPkDecodeBackA
namespace Go.Proofs.YtllnlmchjljhlaaGreatDoor
open Go.RowKit
set_option linter.unusedVariables false
set_option linter.unusedSimpArgs false
section
attribute [local go_sem] opx opE ev okx gcond bnd okO AV.get AV.okb cAV upd_at putd_some putd_none wrs_nil wrs_cons look_nil look_cons st argT_at bpick_and bpick_or bpick_true bpick_false binV binI binS binVOk binOk isShift binSOk unV unVOk loadV loadP cellsA zeroA Blkd.len setE grown moreA moreR moreOk eqRes pv fillA fillE putSeg AV.cellish AV.pureL AV.pureB lentL_is ex_some AV.ren AV.renL renL_c Blkd.ren rho wrM renN lentOk rhoE keepM endOk tyA_2 tyA_3 tyA_4 tyA_5 tyA_6 tyA_7 tyA_8 tyA_9 tyA_10 tyA_11 tyA_12 tyA_13 tyA_14 tyA_15 tyA_16 tyA_17 tyA_18 tyA_19 tyA_21 tyA_22 tyA_23 tyA_24 tyA_29 tyA_30 tyA_31 tyA_32 tyA_33 tyA_34 tyA_35 tyA_36 tyA_37 tyA_38 tyA_39 tyA_40 tyA_41 tyA_42 tyA_43 tyA_49 tyA_85 tyA_89 tyA_99 tyA_100 tyA_101 tyA_105 tyA_106 tyA_107 tyA_108 tyA_109 tyA_111 tyA_112 tyA_113 tyA_114 tyA_123 tyA_126 tyA_127 tyA_128 tyA_129 tyA_130 tyA_153 tyA_163 tyA_164 tyA_165 tyA_179 tyA_185 tyA_191 tyA_192 tyA_193 tyA_194 tyA_195 tyA_196 tyA_209 tyA_213 tyA_214 tyA_215 tyA_241 tyA_248 tyA_274 tyA_275 tyA_276 tyA_292 tyA_294 tyA_302 tyA_307 tyA_315 tyA_319 tyA_321 tyA_324 tyA_325 tyA_326 tyA_327 tyA_328 tyA_329 tyA_330 tyA_332 tyA_333 Option.map_some Option.map_none Option.getD_some Option.getD_none Option.bind_some Option.bind_none List.getElem?_cons_zero List.getElem?_cons_succ List.getElem?_nil List.getElem?_toArray List.length_cons List.length_nil List.length_map List.forall_mem_map List.map_cons List.map_nil List.drop_zero List.drop_succ_cons List.drop_nil List.take_zero List.take_succ_cons List.take_nil List.mem_cons List.not_mem_nil or_false forall_eq_or_imp forall_eq List.set_cons_zero List.set_cons_succ List.cons_append List.nil_append List.append_nil List.foldl_cons List.foldl_nil List.replicate_succ List.replicate_zero List.all_cons List.all_nil if_true if_false Bool.false_eq_true ne_eq not_false_eq_true not_true_eq_false true_and and_true and_self true_implies imp_self implies_true forall_const beq_self_eq_true Bool.and_true Bool.true_and Bool.and_false Bool.false_and Bool.or_true Bool.true_or Bool.or_false Bool.false_or Bool.not_true Bool.not_false Bool.not_eq_eq_eq_not intKindOf Value.oneCell' Int.toNat_natCast beq_true beq_false Bool.not_eq_true false_implies false_or true_or or_true Nat.zero_add Nat.add_zero decide_true decide_false Int.cast_ofNat_Int Int.toNat_zero Int.toNat_one eq_self

def wB (ns : List NT) (r : Int) (p : Nat) : Blkd := ⟨false, 215, 3, [[.c (.sl 10 (ns.map NT.cells)), .c (.v (.int .i64 r)), .c (.v (.int .i64 (p : Int)))]]⟩
theorem kids_len {n : NT} (h : n.sm 1000000) : (kidsN n).length ≤ 1000000 := by
  unfold kidsN
  have h1 := h.2.2.2.2.1
  have h2 := h.2.2.2.2.2.1
  split
  · simpa using h2
  · split
    · simp
    · split
      · exact h1
      · simp
theorem drop_at' {α : Type} {l : List α} {i : Nat} {x : α} (h : l[i]? = some x) : l.drop i = x :: l.drop (i + 1) := by
  obtain ⟨hlt, rfl⟩ := List.getElem?_eq_some_iff.1 h
  exact List.drop_eq_getElem_cons hlt
set_option maxRecDepth 100000 in
set_option maxHeartbeats 1600000 in
theorem walk_told (ns : List NT) (r : Int) (hl : ns.length ≤ 1000000) (hs : ∀ n ∈ ns, n.sm 1000000) : ∀ (d : Nat) (z : Int), z = 33 - (d : Int) → d ≤ 33 → ∀ p : Nat, p ≤ ns.length →
    ToldM Tryz.prog 162 [.ref 1000000 1 0 0, .c (.v (.int .i64 z))] [wB ns r p] [some (wB ns r (walkM ns d p).2)] (.c (.v (.bool (walkM ns d p).1))) := by
  intro d
  induction d with
  | zero =>
    intro z hz hd p hp
    have hz2 : decide (z > 32) = true := by simp; omega
    rw [walkM]
    unfold wB
    refine VC.toldM ent_162 [] Tryz.func162 rfl Tryz.ntmps162 (by simp) (by simp only [ScM, zOk, inL, eq_self, used_is, sc_any, sc_c, sc_pp, sc_ref, sc_row, sc_agg, sc_tup, sc_fn, ScL, some_imp, List.forall_mem_map, Nat.le_refl, go_sem, simprocAttr]) (by simp only [ScM, zOk, inL, eq_self, used_is, sc_any, sc_c, sc_pp, sc_ref, sc_row, sc_agg, sc_tup, sc_fn, ScL, some_imp, List.forall_mem_map, Nat.le_refl, go_sem, simprocAttr]) (by simp only [ScM, zOk, inL, eq_self, used_is, sc_any, sc_c, sc_pp, sc_ref, sc_row, sc_agg, sc_tup, sc_fn, ScL, some_imp, List.forall_mem_map, Nat.le_refl, go_sem, simprocAttr]) (by simp only [ScM, zOk, inL, eq_self, used_is, sc_any, sc_c, sc_pp, sc_ref, sc_row, sc_agg, sc_tup, sc_fn, ScL, some_imp, List.forall_mem_map, Nat.le_refl, go_sem, simprocAttr]) (by simp) fun hb hbL => ?_
    clear hb hbL
    refine walkGF (hz2) ?_
    refine VC.cond (by rfl) (by trivial) (fun hc => ?_) (fun hc => ?_)
    · refine walkG ?_
      refine ⟨by first | exact .inr rfl | exact .inl rfl, ?_⟩; rw [Tryz.results162]; simp only [resOk, resV, go_sem, simprocAttr]
      exact .c _
    · exact absurd hc (by simp)
  | succ d ih =>
    intro z hz hd p hp
    have hz2 : decide (z > 32) = false := by simp; omega
    have hwz : IntKind.i64.wrap (z + 1) = z + 1 := wrap64_id (by omega) (by omega)
    have hI := ih (z + 1) (by omega) (by omega)
    clear ih
    obtain ⟨R, hR⟩ : ∃ R, R = walkM ns (d + 1) p := ⟨_, rfl⟩
    rw [← hR]
    rw [walkM] at hR
    have hle := walkM_le ns d
    by_cases hlt : p < ns.length
    · obtain ⟨n, hn⟩ : ∃ n, ns[p]? = some n := ⟨ns[p], List.getElem?_eq_getElem hlt⟩
      have hnp : (ns.map NT.cells)[p]? = some n.cells := by rw [List.getElem?_map, hn]; rfl
      have hge : decide ((p : Int) ≥ (ns.length : Int)) = false := by simp; omega
      have hwp : IntKind.i64.wrap ((p : Int) + 1) = ((p + 1 : Nat) : Int) := by rw [wrap64_id (by omega) (by omega)]; rfl
      have hns := hs n (List.mem_of_getElem? hn)
      have hK := kids_told n hns
      have hkl := kids_len hns
      rw [hn] at hR
      simp only [] at hR
      obtain ⟨ks, hks⟩ : ∃ ks, ks = kidsN n := ⟨_, rfl⟩
      rw [← hks] at hK hR hkl
      simp only [NT.av_eq] at hK
      clear hks
      have hKi := hK
      clear hK
      unfold wB at hI ⊢
      refine VC.toldM ent_162 [] Tryz.func162 rfl Tryz.ntmps162 (by simp) (by simp only [ScM, zOk, inL, eq_self, used_is, sc_any, sc_c, sc_pp, sc_ref, sc_row, sc_agg, sc_tup, sc_fn, ScL, some_imp, List.forall_mem_map, Nat.le_refl, go_sem, simprocAttr]) (by simp only [ScM, zOk, inL, eq_self, used_is, sc_any, sc_c, sc_pp, sc_ref, sc_row, sc_agg, sc_tup, sc_fn, ScL, some_imp, List.forall_mem_map, Nat.le_refl, go_sem, simprocAttr]) (by simp only [ScM, zOk, inL, eq_self, used_is, sc_any, sc_c, sc_pp, sc_ref, sc_row, sc_agg, sc_tup, sc_fn, ScL, some_imp, List.forall_mem_map, Nat.le_refl, go_sem, simprocAttr]) (by simp only [ScM, zOk, inL, eq_self, used_is, sc_any, sc_c, sc_pp, sc_ref, sc_row, sc_agg, sc_tup, sc_fn, ScL, some_imp, List.forall_mem_map, Nat.le_refl, go_sem, simprocAttr]) (by simp) fun hb hbL => ?_
      clear hb hbL
      refine walkGF (And.intro hge hz2) ?_
      refine VC.cond (by rfl) (by trivial) (fun hc => ?_) (fun hc => ?_)
      · exact absurd hc (by simp)
      refine walkGF (And.intro hwp (And.intro hnp (And.intro @len_ncells (And.intro @take_ncells @take_ncellsC)))) ?_
      refine walkCF (@pureL_c) (hKi) ?_
      refine walkG ?_
      clear hKi
      refine VC.loop (ι := {x : Nat × Nat // x.1 ≤ ks.length ∧ x.2 ≤ ns.length ∧ walkK ns (walkM ns d) (ks.drop x.1) x.2 = R})
        (fun q => [(0, .ref 1000000 1 0 0), (1, .c (.v (.int .i64 z))), (6, .fn (.func 162) [.ref 1000000 1 0 0] []), (42, .c (.sl 1 (ks.map iPV))), (43, .c (.v (.int .i64 (ks.length : Int)))), (44, .c (.v (.int .i64 (q.1.1 : Int))))])
        (fun q => [(1000000, ⟨false, 215, 3, [[.c (.sl 10 (ns.map NT.cells)), .c (.v (.int .i64 r)), .c (.v (.int .i64 (q.1.2 : Int)))]]⟩)]) 800 (fun q => ks.length - q.1.1) ⟨(0, p + 1), Nat.zero_le _, hlt, by rw [List.drop_zero]; exact hR.symm⟩ ?_ ?_
      · simp only [Weak, eq_self, used_is, sc_any, sc_c, sc_pp, sc_ref, sc_row, sc_agg, sc_fn, ScL, some_imp, List.forall_mem_map, go_sem, Int.reduceBEq, Int.reduceLE, Int.reduceLT, Int.reduceNeg, Nat.reduceAdd, Nat.reduceEqDiff, Nat.reduceLT, Nat.reduceLeDiff, Nat.reduceMul, Nat.reduceSub, reduceCtorEq, ↓reduceIte]
        try simp
      clear hR
      rintro ⟨⟨i, q⟩, hi, hq, hR⟩
      simp only [] at hi hq hR ⊢
      refine walkG ?_
      refine VC.cond (by rfl) (by trivial) (fun hc2 => ?_) (fun hc2 => ?_)
      · have hil : i < ks.length := by simp at hc2; omega
        obtain ⟨x, hx⟩ : ∃ x, ks[i]? = some x := ⟨ks[i], List.getElem?_eq_getElem hil⟩
        have hxp : (ks.map iPV)[i]? = some (iPV x) := by rw [List.getElem?_map, hx]; rfl
        have hw : IntKind.i64.wrap ((i : Int) + 1) = (i : Int) + 1 := wrap64_id (by omega) (by omega)
        rw [drop_at' hx, walkK] at hR
        by_cases hk : x = (q : Int)
        · rw [if_pos hk] at hR
          have hkq : (x == (q : Int)) = true := by simpa using hk
          have hIq := hI q hq
          have hqb := (hle q hq).2
          obtain ⟨M, hM⟩ : ∃ M, M = walkM ns d q := ⟨_, rfl⟩
          rw [← hM] at hIq hR hqb
          clear hI hM
          refine walkBF (And.intro hxp (And.intro @iPV_eq (And.intro hkq hwz))) ?_
          ((refine AO.step fun K hK => ?_; simp only [go_sem, Int.reduceBEq, Int.reduceLE, Int.reduceLT, Int.reduceNeg, Nat.reduceAdd, Nat.reduceEqDiff, Nat.reduceLT, Nat.reduceLeDiff, Nat.reduceMul, Nat.reduceSub, reduceCtorEq, ↓reduceIte]; (first | refine gsel_go ?_ | skip)); refine .inr (.inr (.inl ⟨?vy1, [1000000], ?va1, ?vl1, ?vm1, ?cond1, ?cont1⟩)); (case cond1 => ((repeat' apply And.intro) <;> (try ((with_reducible show ToldM _ _ _ _ _ _); exact hIq))); (all_goals first | trivial | (simp only [go_sem, simprocAttr]; done) | (simp; done) | rfl)); (first | refine hK _ _ _ ?_ | (simp only [go_sem, simprocAttr]; first | refine hK _ _ _ ?_ | refine ⟨rfl, hK _ _ _ ?_⟩)); clear hK K)
          refine walkG ?_
          refine VC.cond (by rfl) (by trivial) (fun hc3 => ?_) (fun hc3 => ?_)
          · have hf : R = (false, M.2) := by
              rw [if_neg (by simpa using hc3)] at hR
              exact hR.symm
            subst hf
            refine walkG ?_
            refine ⟨by first | exact .inr rfl | exact .inl rfl, ?_⟩; rw [Tryz.results162]; simp only [resOk, resV, go_sem, simprocAttr]
            exact .c _
          · rw [if_pos (by simpa using hc3)] at hR
            refine walkGF (hw) ?_
            refine .next ⟨(i + 1, M.2), by simp only []; omega, hqb, hR⟩ ?_ (by simp only []; omega)
            simp only [Weak, eq_self, used_is, sc_any, sc_c, sc_pp, sc_ref, sc_row, sc_agg, sc_fn, ScL, some_imp, List.forall_mem_map, go_sem, Int.reduceBEq, Int.reduceLE, Int.reduceLT, Int.reduceNeg, Nat.reduceAdd, Nat.reduceEqDiff, Nat.reduceLT, Nat.reduceLeDiff, Nat.reduceMul, Nat.reduceSub, reduceCtorEq, ↓reduceIte]
            try exact cI (by omega)
        · rw [if_neg hk] at hR
          have hkq : (x == (q : Int)) = false := by simpa using hk
          by_cases hx0 : x < 0
          · have hf : R = (false, q) := by
              rw [if_pos (.inl hx0)] at hR
              exact hR.symm
            subst hf
            have e0 : decide (x < 0) = true := by simpa using hx0
            refine walkBF (And.intro hxp (And.intro @iPV_eq (And.intro hkq e0))) ?_
            refine ⟨by first | exact .inr rfl | exact .inl rfl, ?_⟩; rw [Tryz.results162]; simp only [resOk, resV, go_sem, simprocAttr]
            exact .c _
          have e0 : decide (x < 0) = false := by simpa using hx0
          by_cases hxq : x > (q : Int)
          · have hf : R = (false, q) := by
              rw [if_pos (.inr (.inl hxq))] at hR
              exact hR.symm
            subst hf
            have e1 : decide (x > (q : Int)) = true := by simpa using hxq
            refine walkBF (And.intro hxp (And.intro @iPV_eq (And.intro hkq (And.intro e0 e1)))) ?_
            refine ⟨by first | exact .inr rfl | exact .inl rfl, ?_⟩; rw [Tryz.results162]; simp only [resOk, resV, go_sem, simprocAttr]
            exact .c _
          have e1 : decide (x > (q : Int)) = false := by simpa using hxq
          obtain ⟨j, rfl⟩ : ∃ j : Nat, x = (j : Int) := ⟨x.toNat, by omega⟩
          have hj : j < ns.length := by omega
          obtain ⟨m, hm⟩ : ∃ m, ns[j]? = some m := ⟨ns[j], List.getElem?_eq_getElem hj⟩
          have hmp : (ns.map NT.cells)[j]? = some m.cells := by rw [List.getElem?_map, hm]; rfl
          have hka : kindAt ns ((j : Int)).toNat = m.kind := by rw [Int.toNat_natCast, kindAt, hm]
          rw [hka] at hR
          have hN := named_told m.kind
          refine walkBF (And.intro hxp (And.intro @iPV_eq (And.intro hkq (And.intro e0 (And.intro e1 (And.intro hmp @ncells_mk)))))) ?_
          refine walkC (hN) ?_
          refine walkG ?_
          refine VC.cond (by rfl) (by trivial) (fun hc3 => ?_) (fun hc3 => ?_)
          · have hf : R = (false, q) := by
              rw [if_pos (.inr (.inr (by simpa using hc3)))] at hR
              exact hR.symm
            subst hf
            refine walkG ?_
            refine ⟨by first | exact .inr rfl | exact .inl rfl, ?_⟩; rw [Tryz.results162]; simp only [resOk, resV, go_sem, simprocAttr]
            exact .c _
          · have hnn : namedK m.kind = true := by simpa using hc3
            have hno : ¬ ((j : Int) < 0 ∨ (j : Int) > (q : Int) ∨ namedK m.kind = false) := by
              rintro (h | h | h)
              · exact hx0 h
              · exact hxq h
              · rw [hnn] at h
                exact absurd h (by simp)
            rw [if_neg hno] at hR
            refine walkGF (hw) ?_
            refine .next ⟨(i + 1, q), by simp only []; omega, hq, hR⟩ ?_ (by simp only []; omega)
            simp only [Weak, eq_self, used_is, sc_any, sc_c, sc_pp, sc_ref, sc_row, sc_agg, sc_fn, ScL, some_imp, List.forall_mem_map, go_sem, Int.reduceBEq, Int.reduceLE, Int.reduceLT, Int.reduceNeg, Nat.reduceAdd, Nat.reduceEqDiff, Nat.reduceLT, Nat.reduceLeDiff, Nat.reduceMul, Nat.reduceSub, reduceCtorEq, ↓reduceIte]
            try exact cI (by omega)
      · have hie : i = ks.length := by simp at hc2; omega
        have hf : R = (true, q) := by
          rw [hie, List.drop_length, walkK] at hR
          exact hR.symm
        subst hf
        refine walkG ?_
        refine ⟨by first | exact .inr rfl | exact .inl rfl, ?_⟩; rw [Tryz.results162]; simp only [resOk, resV, go_sem, simprocAttr]
        exact .c _
    · have hR : R = (false, p) := by
        rw [hR, List.getElem?_eq_none (by omega)]
      subst hR
      have hge : decide ((p : Int) ≥ (ns.length : Int)) = true := by simp; omega
      unfold wB
      refine VC.toldM ent_162 [] Tryz.func162 rfl Tryz.ntmps162 (by simp) (by simp only [ScM, zOk, inL, eq_self, used_is, sc_any, sc_c, sc_pp, sc_ref, sc_row, sc_agg, sc_tup, sc_fn, ScL, some_imp, List.forall_mem_map, Nat.le_refl, go_sem, simprocAttr]) (by simp only [ScM, zOk, inL, eq_self, used_is, sc_any, sc_c, sc_pp, sc_ref, sc_row, sc_agg, sc_tup, sc_fn, ScL, some_imp, List.forall_mem_map, Nat.le_refl, go_sem, simprocAttr]) (by simp only [ScM, zOk, inL, eq_self, used_is, sc_any, sc_c, sc_pp, sc_ref, sc_row, sc_agg, sc_tup, sc_fn, ScL, some_imp, List.forall_mem_map, Nat.le_refl, go_sem, simprocAttr]) (by simp only [ScM, zOk, inL, eq_self, used_is, sc_any, sc_c, sc_pp, sc_ref, sc_row, sc_agg, sc_tup, sc_fn, ScL, some_imp, List.forall_mem_map, Nat.le_refl, go_sem, simprocAttr]) (by simp) fun hb hbL => ?_
      clear hb hbL
      refine walkGF (hge) ?_
      refine VC.cond (by rfl) (by trivial) (fun hc => ?_) (fun hc => ?_)
      · refine walkG ?_
        refine ⟨by first | exact .inr rfl | exact .inl rfl, ?_⟩; rw [Tryz.results162]; simp only [resOk, resV, go_sem, simprocAttr]
        exact .c _
      · exact absurd hc (by simp)
set_option maxRecDepth 100000 in
set_option maxHeartbeats 800000 in
theorem ordered_told (s : ST) (hl : s.nodes.length ≤ 1000000) (hs : ∀ n ∈ s.nodes, n.sm 1000000) : Told Tryz.prog 84 [s.av] (.c (.v (.bool (orderedM s)))) := by
  have hW := walk_told s.nodes s.root hl hs 33 0 (by omega) (by omega) 0 (Nat.zero_le _)
  unfold wB at hW
  obtain ⟨V, hV⟩ : ∃ V, V = orderedM s := ⟨_, rfl⟩
  rw [← hV]
  unfold orderedM at hV
  obtain ⟨M, hM⟩ : ∃ M, M = walkM s.nodes 33 0 := ⟨_, rfl⟩
  rw [← hM] at hV hW
  clear hM
  have hv : V = (decide ((s.nodes.length : Int) > 0) && decide ((s.nodes.length : Int) ≤ 200) && (s.root == 0) && M.1 && ((M.2 : Int) == (s.nodes.length : Int))) := by
    have e1 : decide ((s.nodes.length : Int) > 0) = decide (0 < s.nodes.length) := by simp
    have e2 : decide ((s.nodes.length : Int) ≤ 200) = decide (s.nodes.length ≤ 200) := by simp; omega
    have e3 : (s.root == 0) = decide (s.root = 0) := by by_cases h : s.root = 0 <;> simp [h]
    have e4 : ((M.2 : Int) == (s.nodes.length : Int)) = decide (M.2 = s.nodes.length) := by
      by_cases h : M.2 = s.nodes.length
      · simp [h]
      · have : ¬ ((M.2 : Int) = (s.nodes.length : Int)) := by omega
        simp [h, this]
    rw [hV, e1, e2, e3, e4]
    simp only [Bool.and_assoc]
  clear hV
  replace hv := Lib.hid hv
  rw [ST.av_eq, scells_mk]
  rw [show ((0 : Nat) : Int) = 0 from rfl] at hW
  by_cases c1 : 0 < s.nodes.length
  · have e1 : decide ((s.nodes.length : Int) > 0) = true := by simpa using c1
    by_cases c2 : s.nodes.length ≤ 200
    · have e2 : decide ((s.nodes.length : Int) ≤ 200) = true := by simp; omega
      by_cases c3 : s.root = 0
      · have e3 : (s.root == 0) = true := by simpa using c3
        have hv2 : V = (M.1 && ((M.2 : Int) == (s.nodes.length : Int))) := by rw [hv.out, e1, e2, e3]; simp
        clear hv
        replace hv2 := Lib.hid hv2
        refine VC.told ent_84 Tryz.func84 rfl Tryz.ntmps84 (by simp) (by first | rfl | simp [AV.pureB, AV.pureL, pureL_c, pures]) (by first | rfl | simp [AV.pureB, AV.pureL, pureL_c, pures]) fun hb => ?_
        clear hb
        refine walkGF (And.intro e1 (And.intro e2 e3)) ?_
        ((refine AO.step fun K hK => ?_; simp only [go_sem, Int.reduceBEq, Int.reduceLE, Int.reduceLT, Int.reduceNeg, Nat.reduceAdd, Nat.reduceEqDiff, Nat.reduceLT, Nat.reduceLeDiff, Nat.reduceMul, Nat.reduceSub, reduceCtorEq, ↓reduceIte]; (first | refine gsel_go ?_ | skip)); refine .inr (.inr (.inl ⟨?vy2, [32], ?va2, ?vl2, ?vm2, ?cond2, ?cont2⟩)); (case cond2 => ((repeat' apply And.intro) <;> (try ((with_reducible show ToldM _ _ _ _ _ _); exact hW))); (all_goals first | trivial | (simp only [go_sem, simprocAttr]; done) | (simp; done) | rfl)); (first | refine hK _ _ _ ?_ | (simp only [go_sem, simprocAttr]; first | refine hK _ _ _ ?_ | refine ⟨rfl, hK _ _ _ ?_⟩)); clear hK K)
        refine walkG ?_
        refine ⟨by first | exact .inr rfl | exact .inl rfl, ?_⟩; rw [Tryz.results84]; simp only [resOk, resV, go_sem, simprocAttr]
        rw [hv2.out]
        exact .c _
      · have e3 : (s.root == 0) = false := by simpa using c3
        have hv2 : V = false := by rw [hv.out, e3]; simp
        clear hv
        subst hv2
        refine VC.told ent_84 Tryz.func84 rfl Tryz.ntmps84 (by simp) (by first | rfl | simp [AV.pureB, AV.pureL, pureL_c, pures]) (by first | rfl | simp [AV.pureB, AV.pureL, pureL_c, pures]) fun hb => ?_
        clear hb
        refine walkGF (And.intro e1 (And.intro e2 e3)) ?_
        refine ⟨by first | exact .inr rfl | exact .inl rfl, ?_⟩; rw [Tryz.results84]; simp only [resOk, resV, go_sem, simprocAttr]
        exact .c _
    · have e2 : decide ((s.nodes.length : Int) ≤ 200) = false := by simp; omega
      have hv2 : V = false := by rw [hv.out, e2]; simp
      clear hv
      subst hv2
      refine VC.told ent_84 Tryz.func84 rfl Tryz.ntmps84 (by simp) (by first | rfl | simp [AV.pureB, AV.pureL, pureL_c, pures]) (by first | rfl | simp [AV.pureB, AV.pureL, pureL_c, pures]) fun hb => ?_
      clear hb
      refine walkGF (And.intro e1 e2) ?_
      refine ⟨by first | exact .inr rfl | exact .inl rfl, ?_⟩; rw [Tryz.results84]; simp only [resOk, resV, go_sem, simprocAttr]
      exact .c _
  · have e1 : decide ((s.nodes.length : Int) > 0) = false := by
      rw [show s.nodes.length = 0 by omega]
      rfl
    have hv2 : V = false := by rw [hv.out, e1]; simp
    clear hv
    subst hv2
    refine VC.told ent_84 Tryz.func84 rfl Tryz.ntmps84 (by simp) (by first | rfl | simp [AV.pureB, AV.pureL, pureL_c, pures]) (by first | rfl | simp [AV.pureB, AV.pureL, pureL_c, pures]) fun hb => ?_
    clear hb
    refine walkGF (e1) ?_
    refine ⟨by first | exact .inr rfl | exact .inl rfl, ?_⟩; rw [Tryz.results84]; simp only [resOk, resV, go_sem, simprocAttr]
    exact .c _

def KnOk (kn : List Int) : Prop := ∀ x ∈ kn, -1 ≤ x ∧ x ≤ 1001
theorem KnOk.set {kn : List Int} (h : KnOk kn) (p : Nat) {v : Int} (hv : -1 ≤ v ∧ v ≤ 1001) : KnOk (kn.set p v) := fun x hx => by
  rcases List.mem_or_eq_of_mem_set hx with h1 | rfl
  · exact h x h1
  · exact hv
theorem count_set_le {kn : List Int} (p : Nat) {v : Int} (hv : v ≠ 0) : (kn.set p v).count 0 ≤ kn.count 0 := by
  by_cases hp : p < kn.length
  · rw [List.count_set hp]
    have : (v == 0) = false := by simpa using hv
    simp [this]
  · rw [List.set_eq_of_length_le (by omega)]
    exact Nat.le_refl _
theorem count_set_lt {kn : List Int} {p : Nat} {v : Int} (hp : kn[p]? = some 0) (hv : v ≠ 0) : (kn.set p v).count 0 < kn.count 0 := by
  obtain ⟨hlt, h0⟩ := List.getElem?_eq_some_iff.1 hp
  rw [List.count_set hlt]
  have : (v == 0) = false := by simpa using hv
  have hpos : 0 < kn.count 0 := List.count_pos_iff.2 (h0 ▸ List.getElem_mem hlt)
  simp [this, h0]
  omega
theorem weighK_ok (f : Nat → List Int → Int × List Int) (N : Nat) (hf : ∀ q kn, kn.length = N → KnOk kn → (f q kn).2.length = N ∧ KnOk (f q kn).2 ∧ (f q kn).2.count 0 ≤ kn.count 0 ∧ 1 ≤ (f q kn).1 ∧ (f q kn).1 ≤ 1001) :
    ∀ (xs : List FT) (n : Int) (kn : List Int), kn.length = N → KnOk kn → 1 ≤ n → n ≤ 1001 → (weighK f xs n kn).2.length = N ∧ KnOk (weighK f xs n kn).2 ∧ (weighK f xs n kn).2.count 0 ≤ kn.count 0 ∧ 1 ≤ (weighK f xs n kn).1 ∧ (weighK f xs n kn).1 ≤ 1001
  | [], n, kn, h1, h2, h3, h4 => ⟨h1, h2, Nat.le_refl _, h3, h4⟩
  | x :: xs, n, kn, h1, h2, h3, h4 => by
    rw [weighK]
    obtain ⟨a1, a2, a3, a4, a5⟩ := hf x.type.toNat kn h1 h2
    obtain ⟨b1, b2, b3, b4, b5⟩ := weighK_ok f N hf xs (min (n + (f x.type.toNat kn).1) 1001) (f x.type.toNat kn).2 a1 a2 (by omega) (by omega)
    exact ⟨b1, b2, by omega, b4, b5⟩
theorem knAt_of {kn : List Int} {p : Nat} {v : Int} (h : kn[p]? = some v) : knAt kn p = v := by rw [knAt, h]
theorem weighM_ok (ns : List NT) : ∀ (d q : Nat) (kn : List Int), kn.length = ns.length → KnOk kn → (weighM ns d q kn).2.length = ns.length ∧ KnOk (weighM ns d q kn).2 ∧ (weighM ns d q kn).2.count 0 ≤ kn.count 0 ∧ 1 ≤ (weighM ns d q kn).1 ∧ (weighM ns d q kn).1 ≤ 1001
  | 0, q, kn, h1, h2 => ⟨h1, h2, Nat.le_refl _, (by decide : (1 : Int) ≤ 1001), (by decide : (1001 : Int) ≤ 1001)⟩
  | d + 1, q, kn, h1, h2 => by
    rw [weighM]
    split
    · exact ⟨h1, h2, Nat.le_refl _, (by decide : (1 : Int) ≤ 1001), (by decide : (1001 : Int) ≤ 1001)⟩
    · split
      · rename_i h3 h4
        refine ⟨h1, h2, Nat.le_refl _, by omega, ?_⟩
        unfold knAt
        split
        · rename_i v hv
          exact (h2 v (List.mem_of_getElem? hv)).2
        · exact (by decide : (0 : Int) ≤ 1001)
      · obtain ⟨b1, b2, b3, b4, b5⟩ := weighK_ok (weighM ns d) ns.length (weighM_ok ns d) (fieldsAt ns q) 1 (kn.set q (-1)) (by rw [List.length_set]; exact h1) (h2.set q (by decide)) (by decide) (by decide)
        have c1 := count_set_le (kn := kn) q (v := -1) (by decide)
        have c2 := count_set_le (kn := (weighK (weighM ns d) (fieldsAt ns q) 1 (kn.set q (-1))).2) q (v := (weighK (weighM ns d) (fieldsAt ns q) 1 (kn.set q (-1))).1) (by omega)
        exact ⟨by rw [List.length_set]; exact b1, b2.set q (by omega), by simp only []; omega, b4, b5⟩
set_option maxRecDepth 100000 in
set_option maxHeartbeats 1600000 in
theorem weight_told (s : ST) (hl : s.nodes.length ≤ 1000000) (hs : ∀ n ∈ s.nodes, n.sm 1000000) (hr : ∀ n ∈ s.nodes, n.kind = 9 → ∀ f ∈ n.fields, 0 ≤ f.type ∧ f.type < (s.nodes.length : Int)) : ∀ (d p : Nat) (kn : List Int), p < s.nodes.length → kn.length = s.nodes.length → KnOk kn → kn.count 0 < d →
    ToldM Tryz.prog 86 [s.av, .c (.v (.int .i64 (p : Int))), .row 1000000 s.nodes.length] [⟨true, 3, 1, rA iPV kn⟩] [some ⟨true, 3, 1, rA iPV (weighM s.nodes d p kn).2⟩] (.c (.v (.int .i64 (weighM s.nodes d p kn).1))) := by
  intro d
  induction d with
  | zero => intro p kn _ _ _ h; omega
  | succ d ih =>
  intro p kn hp hk hko hc
  obtain ⟨R, hR⟩ : ∃ R, R = weighM s.nodes (d + 1) p kn := ⟨_, rfl⟩
  rw [← hR]
  rw [weighM] at hR
  obtain ⟨v, hv⟩ : ∃ v, kn[p]? = some v := ⟨kn[p]'(by omega), List.getElem?_eq_getElem (by omega)⟩
  rw [knAt_of hv] at hR
  have hvp : (rA iPV kn)[p]? = some [.c (.v (.int .i64 v))] := rA_at hv
  have hkl : (rA iPV kn).length = s.nodes.length := by rw [rA_len, hk]
  obtain ⟨N, hN⟩ : ∃ N, N = s.nodes.length := ⟨_, rfl⟩
  rw [ST.av_eq, scells_mk]
  by_cases hv0 : v < 0
  · rw [if_pos hv0] at hR
    subst hR
    have e0 : decide (v < 0) = true := by simpa using hv0
    refine VC.toldM ent_86 [] Tryz.func86 rfl Tryz.ntmps86 (by simp) (by simp only [ rA_len, rA_sc, hk, ScM, zOk, inL, eq_self, used_is, sc_any, sc_c, sc_pp, sc_ref, sc_row, sc_agg, sc_tup, sc_fn, ScL, some_imp, List.forall_mem_map, Nat.le_refl, go_sem, simprocAttr]) (by simp only [ rA_len, rA_sc, hk, ScM, zOk, inL, eq_self, used_is, sc_any, sc_c, sc_pp, sc_ref, sc_row, sc_agg, sc_tup, sc_fn, ScL, some_imp, List.forall_mem_map, Nat.le_refl, go_sem, simprocAttr]) (by simp only [ rA_len, rA_sc, hk, ScM, zOk, inL, eq_self, used_is, sc_any, sc_c, sc_pp, sc_ref, sc_row, sc_agg, sc_tup, sc_fn, ScL, some_imp, List.forall_mem_map, Nat.le_refl, go_sem, simprocAttr]) (by simp only [ rA_len, rA_sc, hk, ScM, zOk, inL, eq_self, used_is, sc_any, sc_c, sc_pp, sc_ref, sc_row, sc_agg, sc_tup, sc_fn, ScL, some_imp, List.forall_mem_map, Nat.le_refl, go_sem, simprocAttr]) (by simp) fun hb hbL => ?_
    clear hb hbL
    refine walkBF (And.intro hvp (And.intro hkl e0)) ?_
    refine ⟨by first | exact .inr rfl | exact .inl rfl, ?_⟩; rw [Tryz.results86]; simp only [rA_ren, resOk, resV, go_sem, simprocAttr]
    exact .c _
  have e0 : decide (v < 0) = false := by simpa using hv0
  rw [if_neg hv0] at hR
  by_cases hv1 : 0 < v
  · rw [if_pos hv1] at hR
    subst hR
    have e1 : decide (v > 0) = true := by simpa using hv1
    refine VC.toldM ent_86 [] Tryz.func86 rfl Tryz.ntmps86 (by simp) (by simp only [ rA_len, rA_sc, hk, ScM, zOk, inL, eq_self, used_is, sc_any, sc_c, sc_pp, sc_ref, sc_row, sc_agg, sc_tup, sc_fn, ScL, some_imp, List.forall_mem_map, Nat.le_refl, go_sem, simprocAttr]) (by simp only [ rA_len, rA_sc, hk, ScM, zOk, inL, eq_self, used_is, sc_any, sc_c, sc_pp, sc_ref, sc_row, sc_agg, sc_tup, sc_fn, ScL, some_imp, List.forall_mem_map, Nat.le_refl, go_sem, simprocAttr]) (by simp only [ rA_len, rA_sc, hk, ScM, zOk, inL, eq_self, used_is, sc_any, sc_c, sc_pp, sc_ref, sc_row, sc_agg, sc_tup, sc_fn, ScL, some_imp, List.forall_mem_map, Nat.le_refl, go_sem, simprocAttr]) (by simp only [ rA_len, rA_sc, hk, ScM, zOk, inL, eq_self, used_is, sc_any, sc_c, sc_pp, sc_ref, sc_row, sc_agg, sc_tup, sc_fn, ScL, some_imp, List.forall_mem_map, Nat.le_refl, go_sem, simprocAttr]) (by simp) fun hb hbL => ?_
    clear hb hbL
    refine walkBF (And.intro hvp (And.intro hkl (And.intro e0 e1))) ?_
    refine ⟨by first | exact .inr rfl | exact .inl rfl, ?_⟩; rw [Tryz.results86]; simp only [rA_ren, resOk, resV, go_sem, simprocAttr]
    exact .c _
  have e1 : decide (v > 0) = false := by simpa using hv1
  rw [if_neg hv1] at hR
  obtain rfl : v = 0 := by omega
  obtain ⟨n, hn⟩ : ∃ n, s.nodes[p]? = some n := ⟨s.nodes[p], List.getElem?_eq_getElem hp⟩
  have hnp : (s.nodes.map NT.cells)[p]? = some n.cells := by rw [List.getElem?_map, hn]; rfl
  have hns := hs n (List.mem_of_getElem? hn)
  have hfl := hns.2.2.2.2.2.1
  have hset : (rA iPV kn).set p [.c (.v (.int .i64 (-1)))] = rA iPV (kn.set p (-1)) := rA_set kn p (-1)
  have hfa : fieldsAt s.nodes p = if n.kind = 9 then n.fields else [] := by rw [fieldsAt, hn]
  obtain ⟨K0, hK0⟩ : ∃ K, K = weighK (weighM s.nodes d) (fieldsAt s.nodes p) 1 (kn.set p (-1)) := ⟨_, rfl⟩
  rw [← hK0] at hR
  subst hR
  have hct := count_set_lt (v := -1) hv (by decide)
  refine VC.toldM ent_86 [] Tryz.func86 rfl Tryz.ntmps86 (by simp) (by simp only [ rA_len, rA_sc, hk, ScM, zOk, inL, eq_self, used_is, sc_any, sc_c, sc_pp, sc_ref, sc_row, sc_agg, sc_tup, sc_fn, ScL, some_imp, List.forall_mem_map, Nat.le_refl, go_sem, simprocAttr]) (by simp only [ rA_len, rA_sc, hk, ScM, zOk, inL, eq_self, used_is, sc_any, sc_c, sc_pp, sc_ref, sc_row, sc_agg, sc_tup, sc_fn, ScL, some_imp, List.forall_mem_map, Nat.le_refl, go_sem, simprocAttr]) (by simp only [ rA_len, rA_sc, hk, ScM, zOk, inL, eq_self, used_is, sc_any, sc_c, sc_pp, sc_ref, sc_row, sc_agg, sc_tup, sc_fn, ScL, some_imp, List.forall_mem_map, Nat.le_refl, go_sem, simprocAttr]) (by simp only [ rA_len, rA_sc, hk, ScM, zOk, inL, eq_self, used_is, sc_any, sc_c, sc_pp, sc_ref, sc_row, sc_agg, sc_tup, sc_fn, ScL, some_imp, List.forall_mem_map, Nat.le_refl, go_sem, simprocAttr]) (by simp) fun hb hbL => ?_
  clear hb hbL
  refine walkBF (And.intro hvp (And.intro hkl (And.intro e0 (And.intro e1 (And.intro hset (And.intro hnp @ncells_mk)))))) ?_
  refine VC.loop (ι := {x : Nat × (Int × List Int) // x.1 ≤ n.fields.length ∧ x.2.2.length = s.nodes.length ∧ KnOk x.2.2 ∧ x.2.2.count 0 < kn.count 0 ∧ 1 ≤ x.2.1 ∧ x.2.1 ≤ 1001 ∧ (if n.kind = 9 then weighK (weighM s.nodes d) (n.fields.drop x.1) x.2.1 x.2.2 else (x.2.1, x.2.2)) = K0})
    (fun q => [(1, .c (.v (.int .i64 (p : Int)))), (2, .row 1000000 s.nodes.length), (3, .ref 0 1 0 0), (7, .c (.v (.int .i64 q.1.2.1))), (34, .c (.sl 9 (n.fields.map FT.cells))), (35, .c (.v (.int .i64 (n.fields.length : Int)))), (36, .c (.v (.int .i64 (q.1.1 : Int))))])
    (fun q => [(0, ⟨false, 24, 2, [[.c (.sl 10 (s.nodes.map NT.cells)), .c (.v (.int .i64 s.root))]]⟩), (1000000, ⟨true, 3, 1, rA iPV q.1.2.2⟩)]) 800 (fun q => n.fields.length - q.1.1)
    ⟨(0, (1, kn.set p (-1))), Nat.zero_le _, by simp only []; rw [List.length_set]; exact hk, hko.set p (by decide), hct, by simp only []; omega, by simp only []; omega, by
      rw [hK0, hfa]
      split
      · rw [List.drop_zero]
      · rfl⟩ ?_ ?_
  · simp only [rA_len, rA_sc, hk, List.length_set, Weak, eq_self, used_is, sc_any, sc_c, sc_pp, sc_ref, sc_row, sc_agg, sc_fn, ScL, some_imp, List.forall_mem_map, go_sem, Int.reduceBEq, Int.reduceLE, Int.reduceLT, Int.reduceNeg, Nat.reduceAdd, Nat.reduceEqDiff, Nat.reduceLT, Nat.reduceLeDiff, Nat.reduceMul, Nat.reduceSub, reduceCtorEq, ↓reduceIte]
    try simp
  clear hK0 hct hv hvp hset
  rintro ⟨⟨i, m, kn'⟩, hi, hk', hko', hc', hm1, hm2, hK⟩
  simp only [] at hi hk' hko' hc' hm1 hm2 hK ⊢
  have hkl' : (rA iPV kn').length = s.nodes.length := by rw [rA_len, hk']
  refine walkG ?_
  refine VC.cond (by rfl) (by trivial) (fun hc2 => ?_) (fun hc2 => ?_)
  · have hil : i < n.fields.length := by simp at hc2; omega
    obtain ⟨f, hx⟩ : ∃ f, n.fields[i]? = some f := ⟨n.fields[i], List.getElem?_eq_getElem hil⟩
    have hxp : (n.fields.map FT.cells)[i]? = some f.cells := by rw [List.getElem?_map, hx]; rfl
    have hw : IntKind.i64.wrap ((i : Int) + 1) = (i : Int) + 1 := wrap64_id (by omega) (by omega)
    by_cases h9 : n.kind = 9
    · have e9 : (n.kind == 9) = true := by simpa using h9
      obtain ⟨h0, h1⟩ := hr n (List.mem_of_getElem? hn) h9 f (List.mem_of_getElem? hx)
      obtain ⟨q, hq⟩ : ∃ q : Nat, f.type = (q : Int) := ⟨f.type.toNat, by omega⟩
      have hI := ih q kn' (by omega) hk' hko' (by omega)
      obtain ⟨w1, w2, w3, w4, w5⟩ := weighM_ok s.nodes d q kn' hk' hko'
      rw [if_pos h9, (List.drop_eq_getElem_cons hil).trans (by rw [(List.getElem?_eq_some_iff.1 hx).2]), weighK, hq, Int.toNat_natCast] at hK
      obtain ⟨M, hM⟩ : ∃ M, M = weighM s.nodes d q kn' := ⟨_, rfl⟩
      rw [← hM] at hI hK w1 w2 w3 w4 w5
      clear ih hM
      have hww : IntKind.i64.wrap (m + M.1) = m + M.1 := wrap64_id (by omega) (by omega)
      have hkl2 : (rA iPV M.2).length = s.nodes.length := by rw [rA_len, w1]
      simp only [ST.av_eq, scells_mk, List.map_cons, List.map_nil] at hI
      refine walkBF (And.intro hxp (And.intro @fcells_mk (And.intro @len_cells (And.intro @take_cells (And.intro @take_cellsC (And.intro hnp (And.intro @ncells_mk (And.intro e9 (And.intro hkl' hq))))))))) ?_
      ((refine AO.step fun K hK => ?_; simp only [go_sem, Int.reduceBEq, Int.reduceLE, Int.reduceLT, Int.reduceNeg, Nat.reduceAdd, Nat.reduceEqDiff, Nat.reduceLT, Nat.reduceLeDiff, Nat.reduceMul, Nat.reduceSub, reduceCtorEq, ↓reduceIte, hkl', hq, rA_ren]; (first | refine gsel_go ?_ | skip)); refine .inr (.inr (.inl ⟨?vy1, [1000000], ?va1, ?vl1, ?vm1, ?cond1, ?cont1⟩)); (case cond1 => ((repeat' apply And.intro) <;> (try ((with_reducible show ToldM _ _ _ _ _ _); exact hI))); (all_goals first | trivial | (simp only [hkl', hq, rA_ren, go_sem, simprocAttr]; done) | (simp; done) | rfl)); (first | refine hK _ _ _ ?_ | (simp only [hkl', hq, rA_ren, go_sem, simprocAttr]; first | refine hK _ _ _ ?_ | refine ⟨rfl, hK _ _ _ ?_⟩)); clear hK K)
      refine walkGF (And.intro hww (And.intro hw hkl2)) ?_
      refine .next ⟨(i + 1, (min (m + M.1) 1001, M.2)), by simp only []; omega, w1, w2, by simp only []; omega, by simp only []; omega, by simp only []; omega, by simp only []; rw [if_pos h9]; exact hK⟩ ?_ (by simp only []; omega)
      simp only [rA_len, rA_sc, rA_ren, w1, Weak, eq_self, used_is, sc_any, sc_c, sc_pp, sc_ref, sc_row, sc_agg, sc_fn, ScL, some_imp, List.forall_mem_map, go_sem, Int.reduceBEq, Int.reduceLE, Int.reduceLT, Int.reduceNeg, Nat.reduceAdd, Nat.reduceEqDiff, Nat.reduceLT, Nat.reduceLeDiff, Nat.reduceMul, Nat.reduceSub, reduceCtorEq, ↓reduceIte]
      exact ⟨cI (by omega), Nat.le_refl _⟩
    · have e9 : (n.kind == 9) = false := by simpa using h9
      rw [if_neg h9] at hK
      refine walkBF (And.intro hxp (And.intro @fcells_mk (And.intro @len_cells (And.intro @take_cells (And.intro @take_cellsC (And.intro hnp (And.intro @ncells_mk (And.intro e9 hw)))))))) ?_
      refine .next ⟨(i + 1, (m, kn')), by simp only []; omega, hk', hko', hc', hm1, hm2, by simp only []; rw [if_neg h9]; exact hK⟩ ?_ (by simp only []; omega)
      simp only [rA_len, rA_sc, hk', Weak, eq_self, used_is, sc_any, sc_c, sc_pp, sc_ref, sc_row, sc_agg, sc_fn, ScL, some_imp, List.forall_mem_map, go_sem, Int.reduceBEq, Int.reduceLE, Int.reduceLT, Int.reduceNeg, Nat.reduceAdd, Nat.reduceEqDiff, Nat.reduceLT, Nat.reduceLeDiff, Nat.reduceMul, Nat.reduceSub, reduceCtorEq, ↓reduceIte]
      exact ⟨cI (by omega), Nat.le_refl _⟩
  · have hie : i = n.fields.length := by simp at hc2; omega
    have hf : K0 = (m, kn') := by
      rw [← hK]
      split
      · rw [hie, List.drop_length, weighK]
      · rfl
    subst hf
    have hset : (rA iPV kn').set p [.c (.v (.int .i64 m))] = rA iPV (kn'.set p m) := rA_set kn' p m
    obtain ⟨u, hu⟩ : ∃ u, kn'[p]? = some u := ⟨kn'[p]'(by omega), List.getElem?_eq_getElem (by omega)⟩
    have hup : (rA iPV kn')[p]? = some [.c (.v (.int .i64 u))] := rA_at hu
    refine walkGF (And.intro hkl' (And.intro hup hset)) ?_
    refine ⟨by first | exact .inr rfl | exact .inl rfl, ?_⟩; rw [Tryz.results86]; simp only [rA_ren, resOk, resV, go_sem, simprocAttr]
    exact .c _

theorem namesM_take {ns : List NT} {i : Nat} {n : NT} (h : ns[i]? = some n) : namesM (ns.take (i + 1)) = namesM (ns.take i) ++ (if namedK n.kind = true then [n.name] else []) := by
  rw [List.take_add_one, h]
  simp only [namesM, List.filter_append, List.map_append, Option.toList_some]
  congr 1
  by_cases hk : namedK n.kind = true
  · simp [hk]
  · simp [hk]
theorem rA_rep (N : Nat) : rA iPV (List.replicate N 0) = List.replicate N [AV.c (.v (.int .i64 0))] := by
  simp [rA, iPV]
theorem ordered_kids {s : ST} (h : orderedM s = true) : ∀ n ∈ s.nodes, ∀ k ∈ kidsN n, 0 ≤ k ∧ k < (s.nodes.length : Int) := by
  intro n hn k hk
  obtain ⟨i, hi⟩ := List.getElem?_of_mem hn
  have := (ordered_stand h).1 i n (Nat.zero_le _) (List.getElem?_eq_some_iff.1 hi).1 hi k hk
  exact ⟨this.1, this.2.1⟩
theorem names_sm {ns : List NT} {N : Nat} (h : ∀ n ∈ ns, n.sm N) : ∀ x ∈ namesM ns, x.length ≤ N := by
  intro x hx
  obtain ⟨n, hn, rfl⟩ := List.mem_map.1 hx
  exact (h n (List.mem_filter.1 hn).1).1
theorem names_len (ns : List NT) : (namesM ns).length ≤ ns.length := by
  unfold namesM
  rw [List.length_map]
  exact List.length_filter_le _ _
set_option maxRecDepth 100000 in
set_option maxHeartbeats 1600000 in
theorem sRight_told (s : ST) (hsm : s.sm 1000000) : Told Tryz.prog 47 [s.av] (.c (.v (.bool (rightM s)))) := by
  obtain ⟨V, hV⟩ : ∃ V, V = rightM s := ⟨_, rfl⟩
  rw [← hV]
  unfold rightM at hV
  obtain ⟨hl, hs⟩ := hsm
  have hO := ordered_told s hl hs
  simp only [ST.av_eq, scells_mk, List.map_cons, List.map_nil] at hO
  rw [ST.av_eq, scells_mk]
  cases ho : orderedM s with
  | false =>
    rw [ho] at hO hV
    obtain rfl : V = false := hV
    refine VC.told ent_47 Tryz.func47 rfl Tryz.ntmps47 (by simp) (by first | rfl | simp [AV.pureB, AV.pureL, pureL_c, pures]) (by first | rfl | simp [AV.pureB, AV.pureL, pureL_c, pures]) fun hb => ?_
    clear hb
    refine walkG ?_
    refine walkC (hO) ?_
    refine walkB ?_
    refine ⟨by first | exact .inr rfl | exact .inl rfl, ?_⟩; rw [Tryz.results47]; simp only [resOk, resV, go_sem, simprocAttr]
    exact .c _
  | true =>
  rw [ho] at hO hV
  have hki := ordered_kids ho
  rw [Bool.true_and] at hV
  obtain ⟨R, hR⟩ : ∃ R, R = rightL s.nodes s.nodes 0 (List.replicate s.nodes.length 0) := ⟨_, rfl⟩
  rw [← hR] at hV
  have hnm : ∀ i, (namesM (s.nodes.take i)).length ≤ 1000000 := fun i => by
    have := names_len (s.nodes.take i)
    rw [List.length_take] at this
    omega
  refine VC.told ent_47 Tryz.func47 rfl Tryz.ntmps47 (by simp) (by first | rfl | simp [AV.pureB, AV.pureL, pureL_c, pures]) (by first | rfl | simp [AV.pureB, AV.pureL, pureL_c, pures]) fun hb => ?_
  clear hb
  refine walkG ?_
  refine walkC (hO) ?_
  refine walkB ?_
  refine VC.nil 3 9 1 (by rfl) (by trivial) (by rfl) ?_
  refine VC.loop (ι := {x : Nat × List Int // x.1 ≤ s.nodes.length ∧ x.2.length = s.nodes.length ∧ KnOk x.2 ∧ rightL s.nodes (s.nodes.drop x.1) x.1 x.2 = R})
    (fun q => [(1, .ref 0 1 0 0), (3, .row 120 (namesM (s.nodes.take q.1.1)).length), (4, .row 72 s.nodes.length), (15, .c (.sl 10 (s.nodes.map NT.cells))), (16, .c (.v (.int .i64 (s.nodes.length : Int)))), (17, .c (.v (.int .i64 (q.1.1 : Int))))])
    (fun q => [(0, ⟨false, 24, 2, [[.c (.sl 10 (s.nodes.map NT.cells)), .c (.v (.int .i64 s.root))]]⟩), (72, ⟨true, 3, 1, rA iPV q.1.2⟩), (120, ⟨true, 9, 1, rA sPV (namesM (s.nodes.take q.1.1))⟩)]) 800 (fun q => s.nodes.length - q.1.1)
    ⟨(0, List.replicate s.nodes.length 0), Nat.zero_le _, by simp, fun x hx => by obtain rfl := (List.mem_replicate.1 hx).2; decide, by rw [List.drop_zero]; exact hR.symm⟩ ?_ ?_
  · simp only [rA_len, rA_sc, rA_rep, List.length_replicate, Weak, eq_self, used_is, sc_any, sc_c, sc_pp, sc_ref, sc_row, sc_agg, sc_fn, ScL, some_imp, List.forall_mem_map, go_sem, Int.reduceBEq, Int.reduceLE, Int.reduceLT, Int.reduceNeg, Nat.reduceAdd, Nat.reduceEqDiff, Nat.reduceLT, Nat.reduceLeDiff, Nat.reduceMul, Nat.reduceSub, reduceCtorEq, ↓reduceIte]
    refine ⟨rfl, rfl, ⟨Nat.le_refl _, Nat.le_refl _⟩, fun e he x hx => ?_⟩
    obtain rfl := (List.mem_replicate.1 he).2
    obtain rfl := List.mem_singleton.1 hx
    exact .c
  clear hR hO
  rintro ⟨⟨i, kn⟩, hi, hk, hko, hR⟩
  simp only [] at hi hk hko hR ⊢
  have hkl : (rA iPV kn).length = s.nodes.length := by rw [rA_len, hk]
  refine walkG ?_
  refine VC.cond (by rfl) (by trivial) (fun hc => ?_) (fun hc => ?_)
  · have hlt : i < s.nodes.length := by simp at hc; omega
    obtain ⟨n, hn⟩ : ∃ n, s.nodes[i]? = some n := ⟨s.nodes[i], List.getElem?_eq_getElem hlt⟩
    have hnp : (s.nodes.map NT.cells)[i]? = some n.cells := by rw [List.getElem?_map, hn]; rfl
    have hw : IntKind.i64.wrap ((i : Int) + 1) = (i : Int) + 1 := wrap64_id (by omega) (by omega)
    have hmem := List.mem_of_getElem? hn
    have hNd := node_told s n (hs n hmem) fun h13 k hk => hki n hmem k (by rw [kidsN, if_neg (by omega), if_neg (by omega), if_pos h13]; exact hk)
    have hNm := named_told n.kind
    have hW := weight_told s hl hs (fun m hm h9 f hf => hki m hm f.type (by rw [kidsN, if_pos h9]; exact List.mem_map.2 ⟨f, hf, rfl⟩)) (s.nodes.length + 1) i kn hlt hk hko (by have := List.count_le_length (a := (0 : Int)) (l := kn); omega)
    obtain ⟨w1, w2, w3, w4, w5⟩ := weighM_ok s.nodes (s.nodes.length + 1) i kn hk hko
    rw [(List.drop_eq_getElem_cons hlt).trans (by rw [(List.getElem?_eq_some_iff.1 hn).2]), rightL] at hR
    obtain ⟨M, hM⟩ : ∃ M, M = weighM s.nodes (s.nodes.length + 1) i kn := ⟨_, rfl⟩
    rw [← hM] at hW hR w1 w2 w3 w4 w5
    clear hM
    simp only [ST.av_eq, scells_mk, NT.av_eq, ncells_mk, List.map_cons, List.map_nil] at hNd hW
    have hkl2 : (rA iPV M.2).length = s.nodes.length := by rw [rA_len, w1]
    have hnl : (rA sPV (namesM (s.nodes.take i))).length = (namesM (s.nodes.take i)).length := rA_len _ _
    have hnt := namesM_take hn
    have hni := hnm i
    cases hnn : nodeM s.nodes n with
    | false =>
      rw [hnn] at hNd hR
      obtain rfl : R = false := hR.symm
      obtain rfl : V = false := hV
      refine walkGF (And.intro hnp (And.intro @ncells_mk hkl)) ?_
      refine walkC (hNd) ?_
      refine walkB ?_
      refine ⟨by first | exact .inr rfl | exact .inl rfl, ?_⟩; rw [Tryz.results47]; simp only [resOk, resV, go_sem, simprocAttr]
      exact .c _
    | true =>
      rw [hnn] at hNd hR
      rw [Bool.true_and] at hR
      refine walkGF (And.intro hnp (And.intro @ncells_mk hkl)) ?_
      refine walkC (hNd) ?_
      refine walkG ?_
      ((refine AO.step fun K hK => ?_; simp only [go_sem, Int.reduceBEq, Int.reduceLE, Int.reduceLT, Int.reduceNeg, Nat.reduceAdd, Nat.reduceEqDiff, Nat.reduceLT, Nat.reduceLeDiff, Nat.reduceMul, Nat.reduceSub, reduceCtorEq, ↓reduceIte, hkl, rA_ren]; (first | refine gsel_go ?_ | skip)); refine .inr (.inr (.inl ⟨?vy1, [72], ?va1, ?vl1, ?vm1, ?cond1, ?cont1⟩)); (case cond1 => ((repeat' apply And.intro) <;> (try ((with_reducible show ToldM _ _ _ _ _ _); exact hW))); (all_goals first | trivial | (simp only [hkl, rA_ren, go_sem, simprocAttr]; done) | (simp; done) | rfl)); (first | refine hK _ _ _ ?_ | (simp only [hkl, rA_ren, go_sem, simprocAttr]; first | refine hK _ _ _ ?_ | refine ⟨rfl, hK _ _ _ ?_⟩)); clear hK K)
      refine walkG ?_
      refine VC.cond (by rfl) (by trivial) (fun hc2 => ?_) (fun hc2 => ?_)
      · have hf : V = false := by
          have : ¬ M.1 ≤ 1000 := by simp at hc2; omega
          rw [hV, ← hR]
          simp [this]
        subst hf
        refine walkG ?_
        refine ⟨by first | exact .inr rfl | exact .inl rfl, ?_⟩; rw [Tryz.results47]; simp only [resOk, resV, go_sem, simprocAttr]
        exact .c _
      have hm1 : M.1 ≤ 1000 := by simp at hc2; omega
      have hR2 : rightL s.nodes (s.nodes.drop (i + 1)) (i + 1) M.2 = R := by
        rw [← hR]
        simp [hm1]
      refine walkGF (hkl2) ?_
      refine walkC (hNm) ?_
      refine walkG ?_
      refine VC.cond (by rfl) (by trivial) (fun hc3 => ?_) (fun hc3 => ?_)
      · rw [if_pos hc3] at hnt
        have hr : rA sPV (namesM (s.nodes.take i)) ++ [[.c (.v (.string (str n.name)))]] = rA sPV (namesM (s.nodes.take (i + 1))) := by
          rw [hnt]
          exact rA_one sPV _ n.name
        have hl2 : (namesM (s.nodes.take (i + 1))).length = (namesM (s.nodes.take i)).length + 1 := by rw [hnt]; simp
        refine walkGF (And.intro hnl (And.intro hr hw)) ?_
        refine .next ⟨(i + 1, M.2), by simp only []; omega, w1, w2, hR2⟩ ?_ (by simp only []; omega)
        simp only [rA_len, rA_sc, rA_ren, w1, hl2, Weak, eq_self, used_is, sc_any, sc_c, sc_pp, sc_ref, sc_row, sc_agg, sc_fn, ScL, some_imp, List.forall_mem_map, go_sem, Int.reduceBEq, Int.reduceLE, Int.reduceLT, Int.reduceNeg, Nat.reduceAdd, Nat.reduceEqDiff, Nat.reduceLT, Nat.reduceLeDiff, Nat.reduceMul, Nat.reduceSub, reduceCtorEq, ↓reduceIte]
        exact ⟨cI (by omega), Nat.le_refl _, Nat.le_refl _⟩
      · rw [if_neg (by rw [hc3]; simp), List.append_nil] at hnt
        refine walkGF (hw) ?_
        refine .next ⟨(i + 1, M.2), by simp only []; omega, w1, w2, hR2⟩ ?_ (by simp only []; omega)
        simp only [rA_len, rA_sc, rA_ren, w1, hnt, Weak, eq_self, used_is, sc_any, sc_c, sc_pp, sc_ref, sc_row, sc_agg, sc_fn, ScL, some_imp, List.forall_mem_map, go_sem, Int.reduceBEq, Int.reduceLE, Int.reduceLT, Int.reduceNeg, Nat.reduceAdd, Nat.reduceEqDiff, Nat.reduceLT, Nat.reduceLeDiff, Nat.reduceMul, Nat.reduceSub, reduceCtorEq, ↓reduceIte]
        exact ⟨cI (by omega), Nat.le_refl _, Nat.le_refl _⟩
  · have hie : i = s.nodes.length := by simp at hc; omega
    have hf : R = true := by
      rw [← hR, hie, List.drop_length, rightL]
    subst hf
    rw [Bool.true_and] at hV
    have htk : s.nodes.take i = s.nodes := by rw [hie, List.take_length]
    rw [htk]
    have hnm0 := hnm i
    rw [htk] at hnm0
    have hD := different_told (g := 89) (rule := fullM) (namesM s.nodes) (by omega) fun x hx => full_told x (by have := names_sm hs x hx; omega)
    rw [← hV] at hD
    have hrl : (rA sPV (namesM s.nodes)).length = (namesM s.nodes).length := rA_len _ _
    refine walkGF (hrl) ?_
    (refine AO.step fun K hK => ?_; simp only [go_sem, Int.reduceBEq, Int.reduceLE, Int.reduceLT, Int.reduceNeg, Nat.reduceAdd, Nat.reduceEqDiff, Nat.reduceLT, Nat.reduceLeDiff, Nat.reduceMul, Nat.reduceSub, reduceCtorEq, ↓reduceIte, hrl]; (first | refine gsel_go ?_ | skip))
    refine .inr (.inl ⟨.c (.v (.bool V)), [.c (.sl 1 ((namesM s.nodes).map sPV)), .fn (.func 89) [] []], [120], ⟨by simp [AV.pureL, AV.pureB], rfl, fun k x z h5 h6 => ?_, rfl, hD⟩, hK _ _ _ ?_⟩)
    · match k with
      | 0 =>
        obtain rfl := Option.some.inj h5
        obtain rfl := Option.some.inj h6
        exact View.row (B := ⟨true, 9, 1, rA sPV (namesM s.nodes)⟩) (es := (namesM s.nodes).map sPV) rfl rfl hrl (rA_pv _ _)
      | 1 => obtain rfl := Option.some.inj h5; obtain rfl := Option.some.inj h6; exact .same _
      | k + 2 => simp at h5
    clear hK K
    refine walkG ?_
    refine ⟨by first | exact .inr rfl | exact .inl rfl, ?_⟩; rw [Tryz.results47]; simp only [resOk, resV, go_sem, simprocAttr]
    exact .c _

set_option maxRecDepth 100000 in
set_option maxHeartbeats 800000 in
theorem vConforms_told (s : ST) (hs : s.sm 1000000) (v : VT) (hv : v.sm 1000000) (a : Int) : Told Tryz.prog 45 [s.av, .c (.v (.int .i64 a)), v.av] (.c (.v (.bool (conM s a v (rightM s))))) := by
  obtain ⟨V, hV⟩ : ∃ V, V = conM s a v (rightM s) := ⟨_, rfl⟩
  rw [← hV]
  unfold conM at hV
  have hR := sRight_told s hs
  have hki := fun h : rightM s = true => ordered_kids (right_ordered h)
  generalize rightM s = r at hR hV hki
  by_cases h1 : 0 ≤ a
  · have e1 : decide (a ≥ 0) = true := by simpa using h1
    rw [show decide (0 ≤ a) = true from e1, Bool.true_and] at hV
    by_cases h2 : a < (s.nodes.length : Int)
    · have e2 : decide (a < (s.nodes.length : Int)) = true := by simpa using h2
      rw [e2, Bool.true_and] at hV
      cases r with
      | false =>
        obtain rfl : V = false := hV
        simp only [ST.av_eq, scells_mk, List.map_cons, List.map_nil] at hR
        rw [VT.av_eq, ST.av_eq, scells_mk]
        refine VC.told ent_45 Tryz.func45 rfl Tryz.ntmps45 (by simp) (by first | rfl | simp [AV.pureB, AV.pureL, pureL_c, pures]) (by first | rfl | simp [AV.pureB, AV.pureL, pureL_c, pures]) fun hb => ?_
        clear hb
        refine walkGF (And.intro e1 e2) ?_
        refine walkC (hR) ?_
        refine walkG ?_
        refine ⟨by first | exact .inr rfl | exact .inl rfl, ?_⟩; rw [Tryz.results45]; simp only [resOk, resV, go_sem, simprocAttr]
        exact .c _
      | true =>
        have hC := conforms_told s (hki rfl) _ v (Nat.le_refl _) hv a h1 h2
        obtain rfl : V = isM s.nodes a v := hV
        generalize isM s.nodes a v = B at hC ⊢
        simp only [ST.av_eq, scells_mk, List.map_cons, List.map_nil] at hR hC
        rw [VT.av_eq] at hC ⊢
        rw [ST.av_eq, scells_mk]
        refine VC.told ent_45 Tryz.func45 rfl Tryz.ntmps45 (by simp) (by first | rfl | simp [AV.pureB, AV.pureL, pureL_c, pures]) (by first | rfl | simp [AV.pureB, AV.pureL, pureL_c, pures]) fun hb => ?_
        clear hb
        refine walkGF (And.intro e1 e2) ?_
        refine walkC (hR) ?_
        refine walkGF (And.intro @len_vcells (And.intro @take_vcells @take_vcellsC)) ?_
        refine walkCF (@pureL_c) (hC) ?_
        refine walkG ?_
        refine ⟨by first | exact .inr rfl | exact .inl rfl, ?_⟩; rw [Tryz.results45]; simp only [resOk, resV, go_sem, simprocAttr]
        exact .c _
    · have e2 : decide (a < (s.nodes.length : Int)) = false := by simpa using h2
      rw [e2] at hV
      obtain rfl : V = false := hV
      rw [VT.av_eq, ST.av_eq, scells_mk]
      refine VC.told ent_45 Tryz.func45 rfl Tryz.ntmps45 (by simp) (by first | rfl | simp [AV.pureB, AV.pureL, pureL_c, pures]) (by first | rfl | simp [AV.pureB, AV.pureL, pureL_c, pures]) fun hb => ?_
      clear hb
      refine walkGF (And.intro e1 e2) ?_
      refine ⟨by first | exact .inr rfl | exact .inl rfl, ?_⟩; rw [Tryz.results45]; simp only [resOk, resV, go_sem, simprocAttr]
      exact .c _
  · have e1 : decide (a ≥ 0) = false := by simpa using h1
    rw [show decide (0 ≤ a) = false from e1] at hV
    obtain rfl : V = false := hV
    rw [VT.av_eq, ST.av_eq, scells_mk]
    refine VC.told ent_45 Tryz.func45 rfl Tryz.ntmps45 (by simp) (by first | rfl | simp [AV.pureB, AV.pureL, pureL_c, pures]) (by first | rfl | simp [AV.pureB, AV.pureL, pureL_c, pures]) fun hb => ?_
    clear hb
    refine walkGF (e1) ?_
    refine ⟨by first | exact .inr rfl | exact .inl rfl, ?_⟩; rw [Tryz.results45]; simp only [resOk, resV, go_sem, simprocAttr]
    exact .c _

theorem right_nodes {s : ST} (h : rightM s = true) : ∀ n ∈ s.nodes, nodeM s.nodes n = true := by
  have key : ∀ (r : List NT) (p : Nat) (kn : List Int), rightL s.nodes r p kn = true → ∀ n ∈ r, nodeM s.nodes n = true := by
    intro r
    induction r with
    | nil => simp
    | cons x xs ih =>
      intro p kn hr n hn
      rw [rightL] at hr
      simp only [Bool.and_eq_true] at hr
      rcases List.mem_cons.1 hn with rfl | hn
      · exact hr.1
      · exact ih _ _ hr.2.2 n hn
  unfold rightM at h
  simp only [Bool.and_eq_true] at h
  exact key _ _ _ h.2.1
theorem item_in {s : ST} (h : rightM s = true) {a : Int} {nd : NT} (hn : s.nodes[a.toNat]? = some nd) {k n b : Int} {t : List UInt8} {xs : List VT} {ks : List (List UInt8)} (hv : isM s.nodes a (.mk k n b t xs ks) = true) {i : Nat} {x : VT} (hx : xs[i]? = some x) :
    isM s.nodes (itemAt nd n i) x = true ∧ 0 ≤ itemAt nd n i ∧ itemAt nd n i < (s.nodes.length : Int) ∧ k = nd.kind ∧
      ((nd.kind = 9 ∧ (kidsN nd)[i]? = some (itemAt nd n i)) ∨ (nd.kind = 13 ∧ 0 ≤ n ∧ n < ((kidsN nd).length : Int) ∧ (kidsN nd)[n.toNat]? = some (itemAt nd n i)) ∨ (nd.kind ≠ 9 ∧ nd.kind ≠ 13 ∧ kidsN nd = [itemAt nd n i])) := by
  rw [isM_eq hn, Bool.and_eq_true] at hv
  obtain ⟨hh, he⟩ := hv
  have hI := (eachM_iff s.nodes _ xs).1 he i x hx
  have hlt : i < xs.length := (List.getElem?_eq_some_iff.1 hx).1
  have hk := ordered_kids (right_ordered h) nd (List.mem_of_getElem? hn)
  unfold headM at hh
  simp only [Bool.and_eq_true, beq_iff_eq] at hh
  obtain ⟨⟨hkk, hvb, _⟩, hrest⟩ := hh
  have hmem : ∀ c : Int, c ∈ kidsN nd → 0 ≤ c ∧ c < (s.nodes.length : Int) := hk
  by_cases h9 : nd.kind = 9
  · rw [hkk, h9, if_neg (by decide), if_neg (by decide), if_neg (by decide), if_neg (by decide), if_neg (by decide), if_neg (by decide), if_pos rfl] at hrest
    simp only [Bool.and_eq_true, beq_iff_eq] at hrest
    have hfl : i < nd.fields.length := by rw [← hrest.1]; exact hlt
    have hat : (kidsN nd)[i]? = some (itemAt nd n i) := by
      rw [kidsN, if_pos h9, itemAt, if_pos h9, typeAt, List.getElem?_map, List.getElem?_eq_getElem hfl]
      rfl
    have := hmem _ (List.mem_of_getElem? hat)
    exact ⟨hI, this.1, this.2, hkk, .inl ⟨h9, hat⟩⟩
  by_cases h13 : nd.kind = 13
  · rw [hkk, h13, if_neg (by decide), if_neg (by decide), if_neg (by decide), if_neg (by decide), if_neg (by decide), if_neg (by decide), if_neg (by decide), if_neg (by decide), if_neg (by decide), if_pos rfl] at hrest
    simp only [Bool.and_eq_true, beq_iff_eq, decide_eq_true_eq] at hrest
    have hkd : kidsN nd = nd.branches := by
      unfold kidsN
      rw [if_neg h9, if_neg (by omega), if_pos h13]
    have hbl : n.toNat < nd.branches.length := by omega
    have hat : (kidsN nd)[n.toNat]? = some (itemAt nd n i) := by
      rw [hkd, itemAt, if_neg h9, if_pos h13, branchAt, List.getElem?_eq_getElem hbl]
    have := hmem _ (List.mem_of_getElem? hat)
    exact ⟨hI, this.1, this.2, hkk, .inr (.inl ⟨h13, hrest.1, by rw [hkd]; exact hrest.2.1, hat⟩)⟩
  · have h1112 : nd.kind = 11 ∨ nd.kind = 12 := by
      by_cases h11 : nd.kind = 11
      · exact .inl h11
      · by_cases h12 : nd.kind = 12
        · exact .inr h12
        · have := vbare_items hvb (by omega) (by omega) (by omega) (by omega)
          omega
    have hkd : kidsN nd = [itemAt nd n i] := by
      unfold kidsN
      rw [if_neg h9, if_pos h1112, itemAt, if_neg h9, if_neg h13]
    have := hmem _ (by rw [hkd]; simp : itemAt nd n i ∈ kidsN nd)
    exact ⟨hI, this.1, this.2, hkk, .inr (.inr ⟨h9, h13, hkd⟩)⟩

mutual
def VT.lng : VT → Prop
  | .mk k n b s xs ks => (-9223372036854775808 ≤ n ∧ n ≤ 9223372036854775807) ∧ VT.lngL xs
def VT.lngL : List VT → Prop
  | [] => True
  | x :: xs => x.lng ∧ VT.lngL xs
end
theorem vlngL_mem : ∀ {xs : List VT}, VT.lngL xs → ∀ x ∈ xs, x.lng
  | x :: xs, h, y, hy => by
    rcases List.mem_cons.1 hy with rfl | hy
    · exact h.1
    · exact vlngL_mem h.2 y hy
theorem vlngL_of : ∀ {xs : List VT}, (∀ x ∈ xs, x.lng) → VT.lngL xs
  | [], _ => trivial
  | x :: xs, h => ⟨h x (by simp), vlngL_of fun y hy => h y (by simp [hy])⟩
theorem isM_parts {ns : List NT} {a : Int} {nd : NT} (hn : ns[a.toNat]? = some nd) {k n b : Int} {t : List UInt8} {xs : List VT} {ks : List (List UInt8)} (hv : isM ns a (.mk k n b t xs ks) = true) :
    k = nd.kind ∧ vbare k n b t xs.length ks = true ∧ t.length ≤ 20000 ∧ (nd.kind = 9 → xs.length = nd.fields.length) ∧ (nd.kind = 12 → ks.length = xs.length) ∧ (nd.kind = 13 → 0 ≤ n ∧ n < (nd.branches.length : Int) ∧ xs.length = 1) ∧ (nd.kind = 14 → (t.length : Int) = nd.size) ∧ (nd.kind = 2 → n = 0 ∨ n = 1) ∧ (nd.kind = 5 → b < 4294967296) := by
  rw [isM_eq hn, Bool.and_eq_true] at hv
  obtain ⟨hh, _⟩ := hv
  unfold headM at hh
  simp only [Bool.and_eq_true, beq_iff_eq, decide_eq_true_eq] at hh
  obtain ⟨⟨hk, hvb, ht⟩, hr⟩ := hh
  refine ⟨hk, hvb, ht, fun h => ?_, fun h => ?_, fun h => ?_, fun h => ?_, fun h => ?_, fun h => ?_⟩
  · rw [hk, h] at hr
    simp at hr
    exact hr.1
  · rw [hk, h] at hr
    simp at hr
    exact hr.1.1
  · rw [hk, h] at hr
    simp at hr
    exact hr
  · rw [hk, h] at hr
    simp at hr
    exact hr
  · rw [hk, h] at hr
    simp at hr
    exact hr
  · rw [hk, h] at hr
    simp at hr
    exact hr
set_option maxRecDepth 100000 in
set_option maxHeartbeats 6400000 in
theorem put_told (s : ST) (hr : rightM s = true) (hln : s.nodes.length ≤ 1000000) (r : Int) (cuts : List Int) (hcr : ∀ n ∈ cuts, -9223372036854775808 ≤ n ∧ n ≤ 9223372036854775807) (hcl : cuts.length ≤ 1000000000) : ∀ (z : Nat) (v : VT), SizeOf.sizeOf v ≤ z → v.sm 1000000 → v.lng → ∀ (a : Int), 0 ≤ a → a < (s.nodes.length : Int) → isM s.nodes a v = true →
    ∀ (l : List UInt8) (c : Nat), (l ++ (encM s.nodes cuts a v c).1).length ≤ 90000000 → (encM s.nodes cuts a v c).2 ≤ 900000000 →
      ToldM Tryz.prog 81 [.ref 1000000 1 0 0, .row 1000001 l.length, .c (.v (.int .i64 a)), v.av] [xE s.nodes r cuts c, bB l] [some (xE s.nodes r cuts (encM s.nodes cuts a v c).2), some (bB (l ++ (encM s.nodes cuts a v c).1))] (.row 1000001 (l ++ (encM s.nodes cuts a v c).1).length) := by
  intro z
  induction z with
  | zero => intro v hv; cases v; simp at hv
  | succ z ih =>
  intro v hv hsm hlg a ha0 ha hm l c hO1 hC1
  cases v with
  | mk k n b t xs ks =>
  obtain ⟨p, rfl⟩ : ∃ p : Nat, a = (p : Int) := ⟨a.toNat, by omega⟩
  obtain ⟨nd, hnd⟩ : ∃ nd, s.nodes[p]? = some nd := ⟨s.nodes[p]'(by omega), List.getElem?_eq_getElem (by omega)⟩
  have hnp : (s.nodes.map NT.cells)[p]? = some nd.cells := by rw [List.getElem?_map, hnd]; rfl
  have hnd' : s.nodes[((p : Int)).toNat]? = some nd := by rw [Int.toNat_natCast]; exact hnd
  obtain ⟨⟨hb0, hb1⟩, hs1, hs2, hs3, hs4, hs5⟩ := hsm
  obtain ⟨⟨hg0, hg1⟩, hg2⟩ := hlg
  obtain ⟨rfl, hvb, ht2, p9, p12, p13, p14, p2, p5⟩ := isM_parts hnd' hm
  have hit : ∀ (i : Nat) (x : VT), xs[i]? = some x → ∀ (l : List UInt8) (c : Nat), (l ++ (encM s.nodes cuts (itemAt nd n i) x c).1).length ≤ 90000000 → (encM s.nodes cuts (itemAt nd n i) x c).2 ≤ 900000000 →
      ToldM Tryz.prog 81 [.ref 1000000 1 0 0, .row 1000001 l.length, .c (.v (.int .i64 (itemAt nd n i))), x.av] [xE s.nodes r cuts c, bB l] [some (xE s.nodes r cuts (encM s.nodes cuts (itemAt nd n i) x c).2), some (bB (l ++ (encM s.nodes cuts (itemAt nd n i) x c).1))] (.row 1000001 (l ++ (encM s.nodes cuts (itemAt nd n i) x c).1).length) := fun i x hx l c h1 h2 => by
    have hI := item_in hr hnd' hm hx
    exact ih x (by
      have h3 := List.sizeOf_lt_of_mem (List.mem_of_getElem? hx)
      simp at hv
      omega) (vsmL_mem hs5 x (List.mem_of_getElem? hx)) (vlngL_mem hg2 x (List.mem_of_getElem? hx)) _ hI.2.1 hI.2.2.1 hI.1 l c h1 h2
  clear ih
  obtain ⟨E, hE⟩ : ∃ E, E = encM s.nodes cuts (p : Int) (.mk nd.kind n b t xs ks) c := ⟨_, rfl⟩
  rw [← hE] at hO1 hC1 ⊢
  rw [encM, hnd'] at hE
  simp only [] at hE
  obtain ⟨O, hO⟩ : ∃ O, O = l ++ E.1 := ⟨_, rfl⟩
  rw [← hO] at hO1 ⊢
  rw [VT.av_eq, vcells_mk]
  have hll : l.length ≤ 90000000 := by rw [hO] at hO1; simp at hO1; omega
  unfold bB xE at hit ⊢
  refine VC.toldM ent_81 [] Tryz.func81 rfl Tryz.ntmps81 (by simp) (by simp only [ bA_len, bA_sc, ScM, zOk, inL, eq_self, used_is, sc_any, sc_c, sc_pp, sc_ref, sc_row, sc_agg, sc_tup, sc_fn, ScL, some_imp, List.forall_mem_map, Nat.le_refl, go_sem, simprocAttr]) (by simp only [ bA_len, bA_sc, ScM, zOk, inL, eq_self, used_is, sc_any, sc_c, sc_pp, sc_ref, sc_row, sc_agg, sc_tup, sc_fn, ScL, some_imp, List.forall_mem_map, Nat.le_refl, go_sem, simprocAttr]) (by simp only [ bA_len, bA_sc, ScM, zOk, inL, eq_self, used_is, sc_any, sc_c, sc_pp, sc_ref, sc_row, sc_agg, sc_tup, sc_fn, ScL, some_imp, List.forall_mem_map, Nat.le_refl, go_sem, simprocAttr]) (by simp only [ bA_len, bA_sc, ScM, zOk, inL, eq_self, used_is, sc_any, sc_c, sc_pp, sc_ref, sc_row, sc_agg, sc_tup, sc_fn, ScL, some_imp, List.forall_mem_map, Nat.le_refl, go_sem, simprocAttr]) (by simp) fun hb hbL => ?_
  clear hb hbL
  (refine VC.seq ?_; (first | refine VC.region (by rfl) (by rfl) ?_ | refine VC.draw mixP (by rfl) (by rfl) ?_); (repeat (refine AO.step fun K hK => ?_; simp only [hnp, go_sem, Int.reduceBEq, Int.reduceLE, Int.reduceLT, Int.reduceNeg, Nat.reduceAdd, Nat.reduceEqDiff, Nat.reduceLT, Nat.reduceLeDiff, Nat.reduceMul, Nat.reduceSub, reduceCtorEq, ↓reduceIte]; (first | refine gsel_skip ?_ | refine gsel_go ?_ | skip); (first | refine hK _ _ _ ?_ | refine ⟨by first | omega | exact ⟨_, rfl, rfl⟩ | exact fun _ => ⟨_, rfl, rfl⟩ | (intro h; simp only [hnp, h, true_and]; omega) | (clear hK; intro h; simp_all <;> omega), hK _ _ _ ?_⟩); clear hK K)); refine AO.nil ?_; first | refine SQ.normal ?_ | refine ⟨okd_of (by kernel_rfl), SQ.normal ?_⟩)
  (refine VC.seq ?_; (first | refine VC.region (by rfl) (by rfl) ?_ | refine VC.draw mixP (by rfl) (by rfl) ?_); (repeat (refine AO.step fun K hK => ?_; simp only [hnp, ncells_mk, go_sem, Int.reduceBEq, Int.reduceLE, Int.reduceLT, Int.reduceNeg, Nat.reduceAdd, Nat.reduceEqDiff, Nat.reduceLT, Nat.reduceLeDiff, Nat.reduceMul, Nat.reduceSub, reduceCtorEq, ↓reduceIte]; (first | refine gsel_skip ?_ | refine gsel_go ?_ | skip); (first | refine hK _ _ _ ?_ | refine ⟨by first | omega | exact ⟨_, rfl, rfl⟩ | exact fun _ => ⟨_, rfl, rfl⟩ | (intro h; simp only [hnp, ncells_mk, h, true_and]; omega) | (clear hK; intro h; simp_all <;> omega), hK _ _ _ ?_⟩); clear hK K)); refine AO.nil ?_; first | refine SQ.normal ?_ | refine ⟨okd_of (by kernel_rfl), SQ.normal ?_⟩)
  refine VC.frz [8, 88] [(1, .row 1000001 l.length), (4, .ref 0 1 0 0), (7, .pp (VT.mk nd.kind n b t xs ks).cells), (9, .pp nd.cells)] [(0, ⟨false, 128, 1, [[.ref 1000000 1 0 0]]⟩), (1000001, ⟨true, 5, 1, bA l⟩), (1000000, ⟨false, 130, 4, [[.c (.sl 10 (s.nodes.map NT.cells)), .c (.v (.int .i64 r)), .c (.sl 1 (cuts.map iPV)), .c (.v (.int .i64 (c : Int)))]]⟩)] 800 ?_ ?_
  · simp only [bA_len, bA_sc, vcells_mk, ncells_mk, WeakF, used_is, sc_any, sc_c, sc_pp, sc_ref, sc_row, sc_agg, sc_fn, ScL, some_imp, List.forall_mem_map, go_sem, Int.reduceBEq, Int.reduceLE, Int.reduceLT, Int.reduceNeg, Nat.reduceAdd, Nat.reduceEqDiff, Nat.reduceLT, Nat.reduceLeDiff, Nat.reduceMul, Nat.reduceSub, reduceCtorEq, ↓reduceIte]
    exact ⟨⟨.same _, .same _, .ref (es := [.v (.int .i64 nd.kind), .v (.int .i64 n), .v (.int .u64 b), .sl 1 (bytePV t), .sl 6 (xs.map VT.cells), .sl 1 (ks.map sPV)]) (by simp) rfl rfl rfl rfl, .ref (es := nd.cells) (by simp) rfl rfl rfl rfl⟩, ⟨.same _, .same _, .same _⟩, Nat.le_refl _⟩
  by_cases h2 : nd.kind = 2
  · have e2 : (nd.kind == 2) = true := by simpa using h2
    obtain rfl : E = ([if n = 0 then 0 else 1], c) := by
      rw [hE, if_neg (by omega), if_neg (by omega), if_neg (by omega), if_neg (by omega), leafM]
      simp [h2]
    simp only [] at hO
    have hV := pbool_told l n (by omega)
    rw [← hO] at hV
    unfold bB at hV
    refine walkBF (And.intro @vcells_mk (And.intro @ncells_mk (And.intro @bA_len e2))) ?_
    ((refine AO.step fun K hK => ?_; simp only [go_sem, Int.reduceBEq, Int.reduceLE, Int.reduceLT, Int.reduceNeg, Nat.reduceAdd, Nat.reduceEqDiff, Nat.reduceLT, Nat.reduceLeDiff, Nat.reduceMul, Nat.reduceSub, reduceCtorEq, ↓reduceIte, bA_len, bA_ren]; (first | refine gsel_go ?_ | skip)); refine .inr (.inr (.inl ⟨?vy1, [1000001], ?va1, ?vl1, ?vm1, ?cond1, ?cont1⟩)); (case cond1 => ((repeat' apply And.intro) <;> (try ((with_reducible show ToldM _ _ _ _ _ _); exact hV))); (all_goals first | trivial | (simp only [bA_len, bA_ren, go_sem, simprocAttr]; done) | (simp; done) | rfl)); (first | refine hK _ _ _ ?_ | (simp only [bA_len, bA_ren, go_sem, simprocAttr]; first | refine hK _ _ _ ?_ | refine ⟨rfl, hK _ _ _ ?_⟩)); clear hK K)
    refine walkBF (And.intro @bA_len @bA_ren) ?_
    refine ⟨by first | exact .inr rfl | exact .inl rfl, ?_⟩; rw [Tryz.results81]; simp only [bA_ren, bA_len, resOk, resV, go_sem, simprocAttr]
    exact .keepW rfl
  have e2 : (nd.kind == 2) = false := by simpa using h2
  by_cases h3 : nd.kind = 3
  · have e3 : (nd.kind == 3) = true := by simpa using h3
    obtain rfl : E = (vput n, c) := by
      rw [hE, if_neg (by omega), if_neg (by omega), if_neg (by omega), if_neg (by omega), leafM]
      simp [h3]
    simp only [] at hO
    have hV := vput_told l n (by omega) hg0 hg1
    rw [← hO] at hV
    unfold bB at hV
    refine walkBF (And.intro @vcells_mk (And.intro @ncells_mk (And.intro @bA_len (And.intro e2 e3)))) ?_
    ((refine AO.step fun K hK => ?_; simp only [go_sem, Int.reduceBEq, Int.reduceLE, Int.reduceLT, Int.reduceNeg, Nat.reduceAdd, Nat.reduceEqDiff, Nat.reduceLT, Nat.reduceLeDiff, Nat.reduceMul, Nat.reduceSub, reduceCtorEq, ↓reduceIte, bA_len, bA_ren]; (first | refine gsel_go ?_ | skip)); refine .inr (.inr (.inl ⟨?vy2, [1000001], ?va2, ?vl2, ?vm2, ?cond2, ?cont2⟩)); (case cond2 => ((repeat' apply And.intro) <;> (try ((with_reducible show ToldM _ _ _ _ _ _); exact hV))); (all_goals first | trivial | (simp only [bA_len, bA_ren, go_sem, simprocAttr]; done) | (simp; done) | rfl)); (first | refine hK _ _ _ ?_ | (simp only [bA_len, bA_ren, go_sem, simprocAttr]; first | refine hK _ _ _ ?_ | refine ⟨rfl, hK _ _ _ ?_⟩)); clear hK K)
    refine walkBF (And.intro @bA_len @bA_ren) ?_
    refine ⟨by first | exact .inr rfl | exact .inl rfl, ?_⟩; rw [Tryz.results81]; simp only [bA_ren, bA_len, resOk, resV, go_sem, simprocAttr]
    exact .keepW rfl
  have e3 : (nd.kind == 3) = false := by simpa using h3
  by_cases h4 : nd.kind = 4
  · have e4 : (nd.kind == 4) = true := by simpa using h4
    obtain rfl : E = (vput n, c) := by
      rw [hE, if_neg (by omega), if_neg (by omega), if_neg (by omega), if_neg (by omega), leafM]
      simp [h4]
    simp only [] at hO
    have hV := vput_told l n (by omega) hg0 hg1
    rw [← hO] at hV
    unfold bB at hV
    refine walkBF (And.intro @vcells_mk (And.intro @ncells_mk (And.intro @bA_len (And.intro e2 (And.intro e3 e4))))) ?_
    ((refine AO.step fun K hK => ?_; simp only [go_sem, Int.reduceBEq, Int.reduceLE, Int.reduceLT, Int.reduceNeg, Nat.reduceAdd, Nat.reduceEqDiff, Nat.reduceLT, Nat.reduceLeDiff, Nat.reduceMul, Nat.reduceSub, reduceCtorEq, ↓reduceIte, bA_len, bA_ren]; (first | refine gsel_go ?_ | skip)); refine .inr (.inr (.inl ⟨?vy3, [1000001], ?va3, ?vl3, ?vm3, ?cond3, ?cont3⟩)); (case cond3 => ((repeat' apply And.intro) <;> (try ((with_reducible show ToldM _ _ _ _ _ _); exact hV))); (all_goals first | trivial | (simp only [bA_len, bA_ren, go_sem, simprocAttr]; done) | (simp; done) | rfl)); (first | refine hK _ _ _ ?_ | (simp only [bA_len, bA_ren, go_sem, simprocAttr]; first | refine hK _ _ _ ?_ | refine ⟨rfl, hK _ _ _ ?_⟩)); clear hK K)
    refine walkBF (And.intro @bA_len @bA_ren) ?_
    refine ⟨by first | exact .inr rfl | exact .inl rfl, ?_⟩; rw [Tryz.results81]; simp only [bA_ren, bA_len, resOk, resV, go_sem, simprocAttr]
    exact .keepW rfl
  have e4 : (nd.kind == 4) = false := by simpa using h4
  by_cases h10 : nd.kind = 10
  · have e10 : (nd.kind == 10) = true := by simpa using h10
    obtain rfl : E = (vput n, c) := by
      rw [hE, if_neg (by omega), if_neg (by omega), if_neg (by omega), if_neg (by omega), leafM]
      simp [h10]
    simp only [] at hO
    have hV := vput_told l n (by omega) hg0 hg1
    rw [← hO] at hV
    unfold bB at hV
    refine walkBF (And.intro @vcells_mk (And.intro @ncells_mk (And.intro @bA_len (And.intro e2 (And.intro e3 (And.intro e4 e10)))))) ?_
    ((refine AO.step fun K hK => ?_; simp only [go_sem, Int.reduceBEq, Int.reduceLE, Int.reduceLT, Int.reduceNeg, Nat.reduceAdd, Nat.reduceEqDiff, Nat.reduceLT, Nat.reduceLeDiff, Nat.reduceMul, Nat.reduceSub, reduceCtorEq, ↓reduceIte, bA_len, bA_ren]; (first | refine gsel_go ?_ | skip)); refine .inr (.inr (.inl ⟨?vy4, [1000001], ?va4, ?vl4, ?vm4, ?cond4, ?cont4⟩)); (case cond4 => ((repeat' apply And.intro) <;> (try ((with_reducible show ToldM _ _ _ _ _ _); exact hV))); (all_goals first | trivial | (simp only [bA_len, bA_ren, go_sem, simprocAttr]; done) | (simp; done) | rfl)); (first | refine hK _ _ _ ?_ | (simp only [bA_len, bA_ren, go_sem, simprocAttr]; first | refine hK _ _ _ ?_ | refine ⟨rfl, hK _ _ _ ?_⟩)); clear hK K)
    refine walkBF (And.intro @bA_len @bA_ren) ?_
    refine ⟨by first | exact .inr rfl | exact .inl rfl, ?_⟩; rw [Tryz.results81]; simp only [bA_ren, bA_len, resOk, resV, go_sem, simprocAttr]
    exact .keepW rfl
  have e10 : (nd.kind == 10) = false := by simpa using h10
  by_cases h5 : nd.kind = 5
  · have e5 : (nd.kind == 5) = true := by simpa using h5
    obtain rfl : E = (bitsB b 4, c) := by
      rw [hE, if_neg (by omega), if_neg (by omega), if_neg (by omega), if_neg (by omega), leafM]
      simp [h5]
    simp only [] at hO
    have hV := pbits_told l b 4 (by omega) hb0 hb1 (by omega)
    rw [← hO] at hV
    unfold bB at hV
    refine walkBF (And.intro @vcells_mk (And.intro @ncells_mk (And.intro @bA_len (And.intro e2 (And.intro e3 (And.intro e4 (And.intro e10 e5))))))) ?_
    ((refine AO.step fun K hK => ?_; simp only [go_sem, Int.reduceBEq, Int.reduceLE, Int.reduceLT, Int.reduceNeg, Nat.reduceAdd, Nat.reduceEqDiff, Nat.reduceLT, Nat.reduceLeDiff, Nat.reduceMul, Nat.reduceSub, reduceCtorEq, ↓reduceIte, bA_len, bA_ren]; (first | refine gsel_go ?_ | skip)); refine .inr (.inr (.inl ⟨?vy5, [1000001], ?va5, ?vl5, ?vm5, ?cond5, ?cont5⟩)); (case cond5 => ((repeat' apply And.intro) <;> (try ((with_reducible show ToldM _ _ _ _ _ _); exact hV))); (all_goals first | trivial | (simp only [bA_len, bA_ren, go_sem, simprocAttr]; done) | (simp; done) | rfl)); (first | refine hK _ _ _ ?_ | (simp only [bA_len, bA_ren, go_sem, simprocAttr]; first | refine hK _ _ _ ?_ | refine ⟨rfl, hK _ _ _ ?_⟩)); clear hK K)
    refine walkBF (And.intro @bA_len @bA_ren) ?_
    refine ⟨by first | exact .inr rfl | exact .inl rfl, ?_⟩; rw [Tryz.results81]; simp only [bA_ren, bA_len, resOk, resV, go_sem, simprocAttr]
    exact .keepW rfl
  have e5 : (nd.kind == 5) = false := by simpa using h5
  by_cases h6 : nd.kind = 6
  · have e6 : (nd.kind == 6) = true := by simpa using h6
    obtain rfl : E = (bitsB b 8, c) := by
      rw [hE, if_neg (by omega), if_neg (by omega), if_neg (by omega), if_neg (by omega), leafM]
      simp [h6]
    simp only [] at hO
    have hV := pbits_told l b 8 (by omega) hb0 hb1 (by omega)
    rw [← hO] at hV
    unfold bB at hV
    refine walkBF (And.intro @vcells_mk (And.intro @ncells_mk (And.intro @bA_len (And.intro e2 (And.intro e3 (And.intro e4 (And.intro e10 (And.intro e5 e6)))))))) ?_
    ((refine AO.step fun K hK => ?_; simp only [go_sem, Int.reduceBEq, Int.reduceLE, Int.reduceLT, Int.reduceNeg, Nat.reduceAdd, Nat.reduceEqDiff, Nat.reduceLT, Nat.reduceLeDiff, Nat.reduceMul, Nat.reduceSub, reduceCtorEq, ↓reduceIte, bA_len, bA_ren]; (first | refine gsel_go ?_ | skip)); refine .inr (.inr (.inl ⟨?vy6, [1000001], ?va6, ?vl6, ?vm6, ?cond6, ?cont6⟩)); (case cond6 => ((repeat' apply And.intro) <;> (try ((with_reducible show ToldM _ _ _ _ _ _); exact hV))); (all_goals first | trivial | (simp only [bA_len, bA_ren, go_sem, simprocAttr]; done) | (simp; done) | rfl)); (first | refine hK _ _ _ ?_ | (simp only [bA_len, bA_ren, go_sem, simprocAttr]; first | refine hK _ _ _ ?_ | refine ⟨rfl, hK _ _ _ ?_⟩)); clear hK K)
    refine walkBF (And.intro @bA_len @bA_ren) ?_
    refine ⟨by first | exact .inr rfl | exact .inl rfl, ?_⟩; rw [Tryz.results81]; simp only [bA_ren, bA_len, resOk, resV, go_sem, simprocAttr]
    exact .keepW rfl
  have e6 : (nd.kind == 6) = false := by simpa using h6
  by_cases h7 : nd.kind = 7
  · have e7 : (nd.kind == 7) = true := by simpa using h7
    obtain rfl : E = (vput (t.length : Int) ++ t, c) := by
      rw [hE, if_neg (by omega), if_neg (by omega), if_neg (by omega), if_neg (by omega), leafM]
      simp [h7]
    simp only [] at hO
    have hV := pbytes_told l t (by omega) (by omega)
    rw [← hO] at hV
    unfold bB at hV
    refine walkBF (And.intro @vcells_mk (And.intro @ncells_mk (And.intro @bA_len (And.intro e2 (And.intro e3 (And.intro e4 (And.intro e10 (And.intro e5 (And.intro e6 e7))))))))) ?_
    ((refine AO.step fun K hK => ?_; simp only [go_sem, Int.reduceBEq, Int.reduceLE, Int.reduceLT, Int.reduceNeg, Nat.reduceAdd, Nat.reduceEqDiff, Nat.reduceLT, Nat.reduceLeDiff, Nat.reduceMul, Nat.reduceSub, reduceCtorEq, ↓reduceIte, bA_len, bA_ren]; (first | refine gsel_go ?_ | skip)); refine .inr (.inr (.inl ⟨?vy7, [1000001], ?va7, ?vl7, ?vm7, ?cond7, ?cont7⟩)); (case cond7 => ((repeat' apply And.intro) <;> (try ((with_reducible show ToldM _ _ _ _ _ _); exact hV))); (all_goals first | trivial | (simp only [bA_len, bA_ren, go_sem, simprocAttr]; done) | (simp; done) | rfl)); (first | refine hK _ _ _ ?_ | (simp only [bA_len, bA_ren, go_sem, simprocAttr]; first | refine hK _ _ _ ?_ | refine ⟨rfl, hK _ _ _ ?_⟩)); clear hK K)
    refine walkBF (And.intro @bA_len @bA_ren) ?_
    refine ⟨by first | exact .inr rfl | exact .inl rfl, ?_⟩; rw [Tryz.results81]; simp only [bA_ren, bA_len, resOk, resV, go_sem, simprocAttr]
    exact .keepW rfl
  have e7 : (nd.kind == 7) = false := by simpa using h7
  by_cases h8 : nd.kind = 8
  · have e8 : (nd.kind == 8) = true := by simpa using h8
    obtain rfl : E = (vput (t.length : Int) ++ t, c) := by
      rw [hE, if_neg (by omega), if_neg (by omega), if_neg (by omega), if_neg (by omega), leafM]
      simp [h8]
    simp only [] at hO
    have hV := pbytes_told l t (by omega) (by omega)
    rw [← hO] at hV
    unfold bB at hV
    refine walkBF (And.intro @vcells_mk (And.intro @ncells_mk (And.intro @bA_len (And.intro e2 (And.intro e3 (And.intro e4 (And.intro e10 (And.intro e5 (And.intro e6 (And.intro e7 e8)))))))))) ?_
    ((refine AO.step fun K hK => ?_; simp only [go_sem, Int.reduceBEq, Int.reduceLE, Int.reduceLT, Int.reduceNeg, Nat.reduceAdd, Nat.reduceEqDiff, Nat.reduceLT, Nat.reduceLeDiff, Nat.reduceMul, Nat.reduceSub, reduceCtorEq, ↓reduceIte, bA_len, bA_ren]; (first | refine gsel_go ?_ | skip)); refine .inr (.inr (.inl ⟨?vy8, [1000001], ?va8, ?vl8, ?vm8, ?cond8, ?cont8⟩)); (case cond8 => ((repeat' apply And.intro) <;> (try ((with_reducible show ToldM _ _ _ _ _ _); exact hV))); (all_goals first | trivial | (simp only [bA_len, bA_ren, go_sem, simprocAttr]; done) | (simp; done) | rfl)); (first | refine hK _ _ _ ?_ | (simp only [bA_len, bA_ren, go_sem, simprocAttr]; first | refine hK _ _ _ ?_ | refine ⟨rfl, hK _ _ _ ?_⟩)); clear hK K)
    refine walkBF (And.intro @bA_len @bA_ren) ?_
    refine ⟨by first | exact .inr rfl | exact .inl rfl, ?_⟩; rw [Tryz.results81]; simp only [bA_ren, bA_len, resOk, resV, go_sem, simprocAttr]
    exact .keepW rfl
  have e8 : (nd.kind == 8) = false := by simpa using h8
  by_cases h14 : nd.kind = 14
  · have e14 : (nd.kind == 14) = true := by simpa using h14
    obtain rfl : E = (t, c) := by
      rw [hE, if_neg (by omega), if_neg (by omega), if_neg (by omega), if_neg (by omega), leafM]
      simp [h14]
    simp only [] at hO
    have hbl : (bytePV t).length = t.length := by simp [bytePV]
    have hbo : bA l ++ (bytePV t).map (fun e => e.map AV.c) = bA O := by rw [hO, ← bA_app]; congr 1; exact (bA_pv t).symm
    have hle : l.length + t.length = O.length := by rw [hO]; simp
    refine walkBF (And.intro @vcells_mk (And.intro @ncells_mk (And.intro @bA_len (And.intro e2 (And.intro e3 (And.intro e4 (And.intro e10 (And.intro e5 (And.intro e6 (And.intro e7 (And.intro e8 (And.intro e14 (And.intro hbl (And.intro hbo hle)))))))))))))) ?_
    refine ⟨by first | exact .inr rfl | exact .inl rfl, ?_⟩; rw [Tryz.results81]; simp only [bA_ren, bA_len, resOk, resV, go_sem, simprocAttr]
    exact .keepW rfl
  have e14 : (nd.kind == 14) = false := by simpa using h14
  by_cases h9 : nd.kind = 9
  · have e9 : (nd.kind == 9) = true := by simpa using h9
    have hx9 := p9 h9
    rw [if_pos h9] at hE
    have hia : ∀ j, itemAt nd n j = typeAt nd j := fun j => by rw [itemAt, if_pos h9]
    have hat : ∀ (i : Nat) (x : VT), xs[i]? = some x → (encsM s.nodes cuts (fun j => typeAt nd j) xs)[i]? = some (encM s.nodes cuts (typeAt nd i) x) := fun i x hx => encs_at s.nodes cuts xs _ i x hx
    have hup := encsM_up s.nodes cuts xs (fun j => typeAt nd j)
    have hfl := encs_len s.nodes cuts xs (fun j => typeAt nd j)
    generalize encsM s.nodes cuts (fun j => typeAt nd j) xs = fs at hE hat hup hfl
    refine walkBF (And.intro @vcells_mk (And.intro @ncells_mk (And.intro @bA_len (And.intro e2 (And.intro e3 (And.intro e4 (And.intro e10 (And.intro e5 (And.intro e6 (And.intro e7 (And.intro e8 (And.intro e14 e9)))))))))))) ?_
    refine VC.loop (ι := {q : Nat × List UInt8 × Nat // q.1 ≤ nd.fields.length ∧ q.2.1 ++ (seqF (fs.drop q.1) q.2.2).1 = O ∧ (seqF (fs.drop q.1) q.2.2).2 = E.2}) (fun q => [(1, .row 1000001 q.1.2.1.length), (4, .ref 0 1 0 0), (7, .pp (VT.mk nd.kind n b t xs ks).cells), (9, .pp nd.cells), (64, .c (.sl 9 (nd.fields.map FT.cells))), (65, .c (.v (.int .i64 (nd.fields.length : Int)))), (66, .c (.v (.int .i64 (q.1.1 : Int))))])
      (fun q => [(0, ⟨false, 128, 1, [[.ref 1000000 1 0 0]]⟩), (1000001, ⟨true, 5, 1, bA q.1.2.1⟩), (1000000, ⟨false, 130, 4, [[.c (.sl 10 (s.nodes.map NT.cells)), .c (.v (.int .i64 r)), .c (.sl 1 (cuts.map iPV)), .c (.v (.int .i64 (q.1.2.2 : Int)))]]⟩)]) 4000 (fun q => nd.fields.length - q.1.1) ⟨(0, l, c), Nat.zero_le _, by simp only []; rw [List.drop_zero, ← hE, hO], by simp only []; rw [List.drop_zero, ← hE]⟩ ?_ ?_
    · simp only [vcells_mk, ncells_mk, bA_len, bA_sc, Weak, eq_self, used_is, sc_any, sc_c, sc_pp, sc_ref, sc_row, sc_agg, sc_fn, ScL, some_imp, List.forall_mem_map, go_sem, Int.reduceBEq, Int.reduceLE, Int.reduceLT, Int.reduceNeg, Nat.reduceAdd, Nat.reduceEqDiff, Nat.reduceLT, Nat.reduceLeDiff, Nat.reduceMul, Nat.reduceSub, reduceCtorEq, ↓reduceIte]
      exact Nat.le_refl _
    rintro ⟨⟨i, m, d⟩, hi, hm1, hm2⟩
    simp only [] at hi hm1 hm2 ⊢
    refine walkG ?_
    refine VC.cond (by rfl) (by trivial) (fun hc => ?_) (fun hc => ?_)
    · have hlt : i < nd.fields.length := by simp at hc; omega
      obtain ⟨x, hx⟩ : ∃ x, xs[i]? = some x := ⟨xs[i]'(by omega), List.getElem?_eq_getElem (by omega)⟩
      obtain ⟨f, hf⟩ : ∃ f, nd.fields[i]? = some f := ⟨nd.fields[i], List.getElem?_eq_getElem hlt⟩
      have hxp : (xs.map VT.cells)[i]? = some x.cells := by rw [List.getElem?_map, hx]; rfl
      have hfp : (nd.fields.map FT.cells)[i]? = some f.cells := by rw [List.getElem?_map, hf]; rfl
      have hw : IntKind.i64.wrap ((i : Int) + 1) = (i : Int) + 1 := wrap64_id (by omega) (by omega)
      have hta : typeAt nd i = f.type := by rw [typeAt, hf]
      rw [drop_eq' (hat i x hx), seqF] at hm1 hm2
      simp only [] at hm1 hm2
      have hup3 := seqF_up (fs.drop (i + 1)) (fun f hf => hup f (List.mem_of_mem_drop hf)) (encM s.nodes cuts (typeAt nd i) x d).2
      have hP := hit i x hx m d (by
        rw [hia]
        have := congrArg List.length hm1
        simp at this ⊢
        omega) (by rw [hia]; omega)
      rw [hia] at hP
      rw [← List.append_assoc] at hm1
      obtain ⟨e, he⟩ : ∃ e, e = encM s.nodes cuts (typeAt nd i) x d := ⟨_, rfl⟩
      rw [← he] at hP hm1 hm2
      rw [hta, VT.av_eq] at hP
      obtain ⟨nm, hnm⟩ : ∃ nm, nm = m ++ e.1 := ⟨_, rfl⟩
      rw [← hnm] at hP hm1
      have hml : m.length ≤ 90000000 ∧ nm.length ≤ 90000000 := by
        have a := congrArg List.length hm1
        have b := congrArg List.length hnm
        simp at a b
        omega
      refine walkGF (And.intro @vcells_mk (And.intro @ncells_mk (And.intro @bA_len (And.intro hxp (And.intro hfp (And.intro @fcells_mk (And.intro @len_cells (And.intro @take_cells (And.intro @take_cellsC (And.intro @len_vcells (And.intro @take_vcells @take_vcellsC))))))))))) ?_
      ((refine AO.step fun K hK => ?_; simp only [go_sem, Int.reduceBEq, Int.reduceLE, Int.reduceLT, Int.reduceNeg, Nat.reduceAdd, Nat.reduceEqDiff, Nat.reduceLT, Nat.reduceLeDiff, Nat.reduceMul, Nat.reduceSub, reduceCtorEq, ↓reduceIte, bA_len, bA_ren]; (first | refine gsel_go ?_ | skip)); refine .inr (.inr (.inl ⟨?vy9, [1000000, 1000001], ?va9, ?vl9, ?vm9, ?cond9, ?cont9⟩)); (case cond9 => ((repeat' apply And.intro) <;> (try ((with_reducible show ToldM _ _ _ _ _ _); exact hP))); (all_goals first | trivial | (simp only [bA_len, bA_ren, go_sem, simprocAttr]; done) | (simp; done) | rfl)); (first | refine hK _ _ _ ?_ | (simp only [bA_len, bA_ren, go_sem, simprocAttr]; first | refine hK _ _ _ ?_ | refine ⟨rfl, hK _ _ _ ?_⟩)); clear hK K)
      refine walkGF (And.intro @bA_len (And.intro @bA_ren hw)) ?_
      refine .next ⟨(i + 1, nm, e.2), by simp only []; omega, hm1, hm2⟩ ?_ (by simp only []; omega)
      simp only [vcells_mk, ncells_mk, bA_len, bA_sc, bA_ren, Weak, eq_self, used_is, sc_any, sc_c, sc_pp, sc_ref, sc_row, sc_agg, sc_fn, ScL, some_imp, List.forall_mem_map, go_sem, Int.reduceBEq, Int.reduceLE, Int.reduceLT, Int.reduceNeg, Nat.reduceAdd, Nat.reduceEqDiff, Nat.reduceLT, Nat.reduceLeDiff, Nat.reduceMul, Nat.reduceSub, reduceCtorEq, ↓reduceIte]
      exact ⟨cI (by omega), Nat.le_refl _⟩
    · have hie : i = nd.fields.length := by simp at hc; omega
      rw [List.drop_of_length_le (by omega), seqF] at hm1 hm2
      simp only [List.append_nil] at hm1 hm2
      subst hm1 hm2
      refine walkGF (@bA_len) ?_
      refine ⟨by first | exact .inr rfl | exact .inl rfl, ?_⟩; rw [Tryz.results81]; simp only [bA_ren, bA_len, resOk, resV, go_sem, simprocAttr]
      exact .keepW rfl
  have e9 : (nd.kind == 9) = false := by simpa using h9
  rw [if_neg h9] at hE
  have hlx : IntKind.i64.wrap (xs.length : Int) = (xs.length : Int) := wrap64_id (by omega) (by omega)
  by_cases h11 : nd.kind = 11
  · have e11 : (nd.kind == 11) = true := by simpa using h11
    rw [if_pos h11] at hE
    have hia : ∀ j, itemAt nd n j = nd.items := fun j => by rw [itemAt, if_neg h9, if_neg (by omega)]
    have hat : ∀ (i : Nat) (x : VT), xs[i]? = some x → (encsM s.nodes cuts (fun _ => nd.items) xs)[i]? = some (encM s.nodes cuts nd.items x) := fun i x hx => encs_at s.nodes cuts xs _ i x hx
    have hup := encsM_up s.nodes cuts xs (fun _ => nd.items)
    have hfl := encs_len s.nodes cuts xs (fun _ => nd.items)
    generalize encsM s.nodes cuts (fun _ => nd.items) xs = fs at hE hat hup hfl
    rw [← hfl] at hE
    subst hE
    have hBl := blocks_told s.nodes r cuts hcr hcl 154 nd.cells (VT.mk nd.kind n b t xs ks).cells fs hup (by omega) (fun i f hf l c h1 h2 => by
      have hil := (List.getElem?_eq_some_iff.1 hf).1
      obtain ⟨x, hx⟩ : ∃ x, xs[i]? = some x := ⟨xs[i]'(by omega), List.getElem?_eq_getElem (by omega)⟩
      rw [hat i x hx] at hf
      obtain rfl := Option.some.inj hf
      have hP := hit i x hx l c (by rw [hia]; exact h1) (by rw [hia]; exact h2)
      rw [hia] at hP
      exact put1_told s.nodes r cuts nd nd.kind n b t xs ks i x hx l c _ hP) l c (by rw [← hO]; exact hO1) hC1
    obtain ⟨C, hC⟩ : ∃ C, C = (blkF cuts fs.length fs c).2 := ⟨_, rfl⟩
    rw [← hO, ← hC] at hBl
    rw [← hC]
    rw [hfl] at hBl
    rw [vcells_mk] at hBl
    unfold bB xE pE at hBl
    rw [ncells_mk] at hBl
    refine walkBF (And.intro @vcells_mk (And.intro @ncells_mk (And.intro @bA_len (And.intro e2 (And.intro e3 (And.intro e4 (And.intro e10 (And.intro e5 (And.intro e6 (And.intro e7 (And.intro e8 (And.intro e14 (And.intro e9 (And.intro e11 hlx)))))))))))))) ?_
    ((refine AO.step fun K hK => ?_; simp only [go_sem, Int.reduceBEq, Int.reduceLE, Int.reduceLT, Int.reduceNeg, Nat.reduceAdd, Nat.reduceEqDiff, Nat.reduceLT, Nat.reduceLeDiff, Nat.reduceMul, Nat.reduceSub, reduceCtorEq, ↓reduceIte, bA_len, bA_ren]; (first | refine gsel_go ?_ | skip)); refine .inr (.inr (.inl ⟨?vy10, [1000000, 1000001, 0], ?va10, ?vl10, ?vm10, ?cond10, ?cont10⟩)); (case cond10 => ((repeat' apply And.intro) <;> (try ((with_reducible show ToldM _ _ _ _ _ _); exact hBl))); (all_goals first | trivial | (simp only [bA_len, bA_ren, go_sem, simprocAttr]; done) | (simp; done) | rfl)); (first | refine hK _ _ _ ?_ | (simp only [bA_len, bA_ren, go_sem, simprocAttr]; first | refine hK _ _ _ ?_ | refine ⟨rfl, hK _ _ _ ?_⟩)); clear hK K)
    refine walkBF (And.intro @bA_len @bA_ren) ?_
    refine ⟨by first | exact .inr rfl | exact .inl rfl, ?_⟩; rw [Tryz.results81]; simp only [bA_ren, bA_len, resOk, resV, go_sem, simprocAttr]
    exact .keepW rfl
  have e11 : (nd.kind == 11) = false := by simpa using h11
  rw [if_neg h11] at hE
  by_cases h12 : nd.kind = 12
  · have e12 : (nd.kind == 12) = true := by simpa using h12
    rw [if_pos h12] at hE
    have hkx := p12 h12
    have hia : ∀ j, itemAt nd n j = nd.items := fun j => by rw [itemAt, if_neg h9, if_neg (by omega)]
    have hat : ∀ (i : Nat) (x : VT) (y : List UInt8), xs[i]? = some x → ks[i]? = some y → (List.zipWith keyF ks (encsM s.nodes cuts (fun _ => nd.items) xs))[i]? = some (keyF y (encM s.nodes cuts nd.items x)) := fun i x y hx hy => by
      rw [List.getElem?_zipWith, hy, encs_at s.nodes cuts xs _ i x hx]
    have hup : ∀ f ∈ List.zipWith keyF ks (encsM s.nodes cuts (fun _ => nd.items) xs), Up f := fun f hf => by
      obtain ⟨i, hi⟩ := List.getElem?_of_mem hf
      rw [List.getElem?_zipWith] at hi
      split at hi
      · obtain rfl := Option.some.inj hi
        rename_i y g hy hg
        exact fun c => encsM_up s.nodes cuts xs _ g (List.mem_of_getElem? hg) c
      · simp at hi
    have hfl : (List.zipWith keyF ks (encsM s.nodes cuts (fun _ => nd.items) xs)).length = xs.length := by
      rw [List.length_zipWith, encs_len]
      omega
    generalize List.zipWith keyF ks (encsM s.nodes cuts (fun _ => nd.items) xs) = fs at hE hat hup hfl
    rw [← hfl] at hE
    subst hE
    have hBl := blocks_told s.nodes r cuts hcr hcl 155 (VT.mk nd.kind n b t xs ks).cells nd.cells fs hup (by omega) (fun i f hf l c h1 h2 => by
      have hil := (List.getElem?_eq_some_iff.1 hf).1
      obtain ⟨x, hx⟩ : ∃ x, xs[i]? = some x := ⟨xs[i]'(by omega), List.getElem?_eq_getElem (by omega)⟩
      obtain ⟨y, hy⟩ : ∃ y, ks[i]? = some y := ⟨ks[i]'(by omega), List.getElem?_eq_getElem (by omega)⟩
      rw [hat i x y hx hy] at hf
      obtain rfl := Option.some.inj hf
      have hP := hit i x hx (l ++ (vput (y.length : Int) ++ y)) c (by
        rw [hia]
        unfold keyF at h1
        simp at h1 ⊢
        omega) (by rw [hia]; exact h2)
      rw [hia] at hP
      exact put2_told s.nodes r cuts nd nd.kind n b t xs ks i x hx y hy (hs3 y (List.mem_of_getElem? hy)) l (by simp at h1; omega) c _ hP) l c (by rw [← hO]; exact hO1) hC1
    obtain ⟨C, hC⟩ : ∃ C, C = (blkF cuts fs.length fs c).2 := ⟨_, rfl⟩
    rw [← hO, ← hC] at hBl
    rw [← hC]
    rw [hfl] at hBl
    rw [vcells_mk] at hBl
    unfold bB xE pE at hBl
    rw [ncells_mk] at hBl
    refine walkBF (And.intro @vcells_mk (And.intro @ncells_mk (And.intro @bA_len (And.intro e2 (And.intro e3 (And.intro e4 (And.intro e10 (And.intro e5 (And.intro e6 (And.intro e7 (And.intro e8 (And.intro e14 (And.intro e9 (And.intro e11 (And.intro e12 hlx))))))))))))))) ?_
    ((refine AO.step fun K hK => ?_; simp only [go_sem, Int.reduceBEq, Int.reduceLE, Int.reduceLT, Int.reduceNeg, Nat.reduceAdd, Nat.reduceEqDiff, Nat.reduceLT, Nat.reduceLeDiff, Nat.reduceMul, Nat.reduceSub, reduceCtorEq, ↓reduceIte, bA_len, bA_ren]; (first | refine gsel_go ?_ | skip)); refine .inr (.inr (.inl ⟨?vy11, [1000000, 1000001, 0], ?va11, ?vl11, ?vm11, ?cond11, ?cont11⟩)); (case cond11 => ((repeat' apply And.intro) <;> (try ((with_reducible show ToldM _ _ _ _ _ _); exact hBl))); (all_goals first | trivial | (simp only [bA_len, bA_ren, go_sem, simprocAttr]; done) | (simp; done) | rfl)); (first | refine hK _ _ _ ?_ | (simp only [bA_len, bA_ren, go_sem, simprocAttr]; first | refine hK _ _ _ ?_ | refine ⟨rfl, hK _ _ _ ?_⟩)); clear hK K)
    refine walkBF (And.intro @bA_len @bA_ren) ?_
    refine ⟨by first | exact .inr rfl | exact .inl rfl, ?_⟩; rw [Tryz.results81]; simp only [bA_ren, bA_len, resOk, resV, go_sem, simprocAttr]
    exact .keepW rfl
  have e12 : (nd.kind == 12) = false := by simpa using h12
  rw [if_neg h12] at hE
  by_cases h13 : nd.kind = 13
  · have e13 : (nd.kind == 13) = true := by simpa using h13
    rw [if_pos h13] at hE
    obtain ⟨q0, q1, q2⟩ := p13 h13
    obtain ⟨x, hxx⟩ : ∃ x, xs = [x] := List.length_eq_one_iff.1 q2
    obtain ⟨q, rfl⟩ : ∃ q : Nat, n = (q : Int) := ⟨n.toNat, by omega⟩
    obtain ⟨f, hf⟩ : ∃ f, nd.branches[q]? = some f := ⟨nd.branches[q]'(by omega), List.getElem?_eq_getElem (by omega)⟩
    have hba : branchAt nd (q : Int) = f := by rw [branchAt, Int.toNat_natCast, hf]
    have hia : itemAt nd (q : Int) 0 = f := by rw [itemAt, if_neg h9, if_pos h13, hba]
    have hx0 : xs[0]? = some x := by rw [hxx]; rfl
    have hxp : (xs.map VT.cells)[0]? = some x.cells := by rw [hxx]; rfl
    have hfp : (nd.branches.map iPV)[q]? = some (iPV f) := by rw [List.getElem?_map, hf]; rfl
    have hE2 : E = (vput (q : Int) ++ (encM s.nodes cuts f x c).1, (encM s.nodes cuts f x c).2) := by
      rw [hE, hba, hxx, encsM, encsM, seqF, seqF]
      simp
    clear hE
    subst hE2
    simp only [] at hO hC1
    have hV := vput_told l (q : Int) (by omega) hg0 hg1
    obtain ⟨m1, hm1⟩ : ∃ m1, m1 = l ++ vput (q : Int) := ⟨_, rfl⟩
    rw [← List.append_assoc, ← hm1] at hO
    have hP := hit 0 x hx0 m1 c (by rw [hia, ← hO]; exact hO1) (by rw [hia]; exact hC1)
    rw [hia] at hP
    rw [← hm1] at hV
    obtain ⟨C, hC⟩ : ∃ C, C = (encM s.nodes cuts f x c).2 := ⟨_, rfl⟩
    rw [← hO, ← hC, VT.av_eq] at hP
    rw [← hC]
    have hml : m1.length ≤ 90000000 := by rw [hO] at hO1; simp at hO1; omega
    have hpos : 0 < xs.length := by omega
    unfold bB at hV
    refine walkBF (And.intro @vcells_mk (And.intro @ncells_mk (And.intro @bA_len (And.intro e2 (And.intro e3 (And.intro e4 (And.intro e10 (And.intro e5 (And.intro e6 (And.intro e7 (And.intro e8 (And.intro e14 (And.intro e9 (And.intro e11 (And.intro e12 e13))))))))))))))) ?_
    ((refine AO.step fun K hK => ?_; simp only [go_sem, Int.reduceBEq, Int.reduceLE, Int.reduceLT, Int.reduceNeg, Nat.reduceAdd, Nat.reduceEqDiff, Nat.reduceLT, Nat.reduceLeDiff, Nat.reduceMul, Nat.reduceSub, reduceCtorEq, ↓reduceIte, bA_len, bA_ren]; (first | refine gsel_go ?_ | skip)); refine .inr (.inr (.inl ⟨?vy12, [1000001], ?va12, ?vl12, ?vm12, ?cond12, ?cont12⟩)); (case cond12 => ((repeat' apply And.intro) <;> (try ((with_reducible show ToldM _ _ _ _ _ _); exact hV))); (all_goals first | trivial | (simp only [bA_len, bA_ren, go_sem, simprocAttr]; done) | (simp; done) | rfl)); (first | refine hK _ _ _ ?_ | (simp only [bA_len, bA_ren, go_sem, simprocAttr]; first | refine hK _ _ _ ?_ | refine ⟨rfl, hK _ _ _ ?_⟩)); clear hK K)
    refine walkGF (And.intro @vcells_mk (And.intro @ncells_mk (And.intro @bA_len (And.intro @bA_ren (And.intro hxp (And.intro hfp (And.intro @iPV_eq (And.intro @len_vcells (And.intro @take_vcells @take_vcellsC))))))))) ?_
    ((refine AO.step fun K hK => ?_; simp only [go_sem, Int.reduceBEq, Int.reduceLE, Int.reduceLT, Int.reduceNeg, Nat.reduceAdd, Nat.reduceEqDiff, Nat.reduceLT, Nat.reduceLeDiff, Nat.reduceMul, Nat.reduceSub, reduceCtorEq, ↓reduceIte, bA_len, bA_ren]; (first | refine gsel_go ?_ | skip)); refine .inr (.inr (.inl ⟨?vy13, [1000000, 1000001], ?va13, ?vl13, ?vm13, ?cond13, ?cont13⟩)); (case cond13 => ((repeat' apply And.intro) <;> (try ((with_reducible show ToldM _ _ _ _ _ _); exact hP))); (all_goals first | trivial | (simp only [bA_len, bA_ren, go_sem, simprocAttr]; done) | (simp; done) | rfl)); (first | refine hK _ _ _ ?_ | (simp only [bA_len, bA_ren, go_sem, simprocAttr]; first | refine hK _ _ _ ?_ | refine ⟨rfl, hK _ _ _ ?_⟩)); clear hK K)
    refine walkBF (And.intro @bA_len @bA_ren) ?_
    refine ⟨by first | exact .inr rfl | exact .inl rfl, ?_⟩; rw [Tryz.results81]; simp only [bA_ren, bA_len, resOk, resV, go_sem, simprocAttr]
    exact .keepW rfl
  · have e13 : (nd.kind == 13) = false := by simpa using h13
    rw [if_neg h13] at hE
    obtain rfl : E = ([], c) := by
      rw [hE, leafM, if_neg h2, if_neg (by omega), if_neg h5, if_neg h6, if_neg (by omega), if_neg h14]
    simp only [List.append_nil] at hO
    subst hO
    refine walkBF (And.intro @vcells_mk (And.intro @ncells_mk (And.intro @bA_len (And.intro e2 (And.intro e3 (And.intro e4 (And.intro e10 (And.intro e5 (And.intro e6 (And.intro e7 (And.intro e8 (And.intro e14 (And.intro e9 (And.intro e11 (And.intro e12 e13))))))))))))))) ?_
    refine ⟨by first | exact .inr rfl | exact .inl rfl, ?_⟩; rw [Tryz.results81]; simp only [bA_ren, bA_len, resOk, resV, go_sem, simprocAttr]
    exact .keepW rfl

/-! Without cuts, how many were taken does not matter. -/
def Still (f : Enc) : Prop := ∀ c, f c = ((f 0).1, c)
def catF (fs : List Enc) : List UInt8 := (fs.map fun f => (f 0).1).flatten
theorem catF_cons (f : Enc) (fs : List Enc) : catF (f :: fs) = (f 0).1 ++ catF fs := rfl
theorem seqF_still : ∀ {fs : List Enc}, (∀ f ∈ fs, Still f) → ∀ c, seqF fs c = (catF fs, c)
  | [], _, c => by rw [seqF]; rfl
  | f :: fs, h, c => by
    rw [seqF, h f (by simp) c, catF_cons]
    simp only []
    rw [seqF_still (fun g hg => h g (by simp [hg])) c]
def blkP (m : Nat) (l : List UInt8) : List UInt8 := if m = 0 then vput 0 else vput (m : Int) ++ (l ++ vput 0)
theorem blkF_still : ∀ (k : Nat) {fs : List Enc}, (∀ f ∈ fs, Still f) → fs.length ≤ k → ∀ c, blkF [] k fs c = (blkP fs.length (catF fs), c)
  | 0, [], _, _, c => by rw [blkF]; rfl
  | 0, f :: fs, _, h, c => by simp at h
  | k + 1, [], _, _, c => by rw [blkF]; rfl
  | k + 1, f :: fs, h, hl, c => by
    have e1 : cutM [] c (fs.length + 1) = (fs.length + 1, false, c) := rfl
    have e2 : (f :: fs).take (fs.length + 1) = f :: fs := List.take_of_length_le (by simp)
    have e3 : (f :: fs).drop (fs.length + 1) = [] := List.drop_of_length_le (by simp)
    have e4 : ∀ c, blkF [] k [] c = (vput 0, c) := fun c => by cases k <;> rw [blkF]
    rw [blkF, e1]
    simp only []
    rw [e2, e3, seqF_still h c, e4]
    simp only [blkP, headB, List.length_cons]
    rfl
theorem keyF_still {y : List UInt8} {f : Enc} (h : Still f) : Still (keyF y f) := fun c => by
  rw [keyF, keyF]
  simp only []
  rw [h c]
theorem zipF_still {ks : List (List UInt8)} {fs : List Enc} (h : ∀ f ∈ fs, Still f) : ∀ f ∈ List.zipWith keyF ks fs, Still f := fun f hf => by
  obtain ⟨i, hi⟩ := List.getElem?_of_mem hf
  rw [List.getElem?_zipWith] at hi
  split at hi
  · obtain rfl := Option.some.inj hi
    rename_i y g hy hg
    exact keyF_still (h g (List.mem_of_getElem? hg))
  · simp at hi
mutual
theorem encM_still (ns : List NT) : ∀ (v : VT) (a : Int), Still (encM ns [] a v)
  | .mk k n b t xs ks, a, c => by
    have h := encsM_still ns xs
    rw [encM]
    simp only []
    split
    · rfl
    · split
      · rw [seqF_still (h _), seqF_still (h _)]
      · split
        · rw [blkF_still _ (h _) (by rw [encs_len]; exact Nat.le_refl _), blkF_still _ (h _) (by rw [encs_len]; exact Nat.le_refl _)]
        · split
          · rename_i nd _ _ _ _
            have h2 : (List.zipWith keyF ks (encsM ns [] (fun _ => nd.items) xs)).length ≤ xs.length := by
              rw [List.length_zipWith, encs_len]
              exact Nat.min_le_right _ _
            rw [blkF_still _ (zipF_still (h _)) h2, blkF_still _ (zipF_still (h _)) h2]
          · split
            · simp only []
              rw [seqF_still (h _), seqF_still (h _)]
            · rfl
theorem encsM_still (ns : List NT) : ∀ (xs : List VT) (f : Nat → Int), ∀ e ∈ encsM ns [] f xs, Still e
  | [], f => by rw [encsM]; simp
  | x :: xs, f => by
    rw [encsM]
    intro e he
    rcases List.mem_cons.1 he with rfl | he
    · exact encM_still ns x _
    · exact encsM_still ns xs _ e he
end
def encP (ns : List NT) (a : Int) (v : VT) : List UInt8 := (encM ns [] a v 0).1
def catP (ns : List NT) (f : Nat → Int) (xs : List VT) : List UInt8 := catF (encsM ns [] f xs)
def catK (ns : List NT) (f : Nat → Int) (ks : List (List UInt8)) (xs : List VT) : List UInt8 := catF (List.zipWith keyF ks (encsM ns [] f xs))
theorem catP_nil (ns : List NT) (f : Nat → Int) : catP ns f [] = [] := by rw [catP, encsM]; rfl
theorem catP_cons (ns : List NT) (f : Nat → Int) (x : VT) (xs : List VT) : catP ns f (x :: xs) = encP ns (f 0) x ++ catP ns (fun i => f (i + 1)) xs := by
  rw [catP, encsM]
  rfl
theorem catK_cons (ns : List NT) (f : Nat → Int) (y : List UInt8) (ks : List (List UInt8)) (x : VT) (xs : List VT) : catK ns f (y :: ks) (x :: xs) = vput (y.length : Int) ++ (y ++ (encP ns (f 0) x ++ catK ns (fun i => f (i + 1)) ks xs)) := by
  rw [catK, encsM, List.zipWith_cons_cons, catF_cons, keyF]
  simp only [List.append_assoc]
  rfl
theorem encP_eq {ns : List NT} {a : Int} {nd : NT} (h : ns[a.toNat]? = some nd) (k n b : Int) (t : List UInt8) (xs : List VT) (ks : List (List UInt8)) : encP ns a (.mk k n b t xs ks) =
    if nd.kind = 9 then catP ns (fun j => typeAt nd j) xs else if nd.kind = 11 then blkP xs.length (catP ns (fun _ => nd.items) xs) else if nd.kind = 12 then blkP (min ks.length xs.length) (catK ns (fun _ => nd.items) ks xs)
    else if nd.kind = 13 then vput n ++ catP ns (fun _ => branchAt nd n) xs else leafM nd nd.kind n b t := by
  have hs := encsM_still ns xs
  rw [encP, encM, h]
  simp only []
  split
  · rw [seqF_still (hs _)]
    rfl
  · split
    · rw [blkF_still _ (hs _) (by rw [encs_len]; exact Nat.le_refl _), encs_len]
      rfl
    · split
      · rw [blkF_still _ (zipF_still (hs _)) (by rw [List.length_zipWith, encs_len]; exact Nat.min_le_right _ _), List.length_zipWith, encs_len]
        rfl
      · split
        · rw [seqF_still (hs _)]
          rfl
        · rfl
/-! Bytes tell values apart. -/
theorem vint_inj : ∀ (u w : Nat) (R S : List UInt8), vint u ++ R = vint w ++ S → u = w ∧ R = S := by
  intro u
  induction u using Nat.strongRecOn with
  | _ u ih =>
  intro w R S h
  by_cases hu : u < 128
  · rw [vint_lt hu] at h
    by_cases hw : w < 128
    · rw [vint_lt hw] at h
      simp only [List.cons_append, List.nil_append, List.cons.injEq] at h
      obtain ⟨h1, h2⟩ := h
      have h3 := congrArg UInt8.toNat h1
      simp at h3
      exact ⟨by omega, h2⟩
    · rw [vint_ge hw] at h
      simp only [List.cons_append, List.nil_append, List.cons.injEq] at h
      have h3 := congrArg UInt8.toNat h.1
      simp at h3
      omega
  · rw [vint_ge hu] at h
    by_cases hw : w < 128
    · rw [vint_lt hw] at h
      simp only [List.cons_append, List.nil_append, List.cons.injEq] at h
      have h3 := congrArg UInt8.toNat h.1
      simp at h3
      omega
    · rw [vint_ge hw] at h
      simp only [List.cons_append, List.cons.injEq] at h
      have h3 := congrArg UInt8.toNat h.1
      simp at h3
      obtain ⟨h4, h5⟩ := ih (u / 128) (by omega) (w / 128) R S h.2
      exact ⟨by omega, h5⟩
theorem vput_inj {m n : Int} {R S : List UInt8} (h : vput m ++ R = vput n ++ S) : m = n ∧ R = S := by
  obtain ⟨h1, h2⟩ := vint_inj _ _ R S h
  refine ⟨?_, h2⟩
  unfold zigN at h1
  split at h1 <;> split at h1 <;> omega
theorem bits_mod (b c : Int) : ∀ k, bitsB b k = bitsB c k → b.toNat % 256 ^ k = c.toNat % 256 ^ k
  | 0, _ => by simp [Nat.mod_one]
  | k + 1, h => by
    rw [bitsB, bitsB] at h
    obtain ⟨h1, h2⟩ := List.append_inj h (by rw [bitsB_len, bitsB_len])
    have h3 := bits_mod b c k h1
    have h4 := congrArg UInt8.toNat (List.cons.inj h2).1
    simp at h4
    rw [Nat.pow_succ, Nat.mod_mul, Nat.mod_mul, h3, h4]
theorem bits_inj {b c : Int} {k : Nat} {R S : List UInt8} (h : bitsB b k ++ R = bitsB c k ++ S) (hb : 0 ≤ b) (hc : 0 ≤ c) (hb' : b.toNat < 256 ^ k) (hc' : c.toNat < 256 ^ k) : b = c ∧ R = S := by
  obtain ⟨h1, h2⟩ := List.append_inj h (by rw [bitsB_len, bitsB_len])
  have h3 := bits_mod b c k h1
  rw [Nat.mod_eq_of_lt hb', Nat.mod_eq_of_lt hc'] at h3
  exact ⟨by omega, h2⟩
theorem blk_inj {m n : Nat} {l r R S : List UInt8} (h : blkP m l ++ R = blkP n r ++ S) : m = n ∧ ((m = 0 ∧ R = S) ∨ (m ≠ 0 ∧ l ++ (vput 0 ++ R) = r ++ (vput 0 ++ S))) := by
  unfold blkP at h
  by_cases hm : m = 0
  · rw [if_pos hm] at h
    by_cases hn : n = 0
    · rw [if_pos hn] at h
      exact ⟨by omega, .inl ⟨hm, List.append_cancel_left h⟩⟩
    · rw [if_neg hn, List.append_assoc] at h
      have := (vput_inj h).1
      omega
  · rw [if_neg hm, List.append_assoc] at h
    by_cases hn : n = 0
    · rw [if_pos hn] at h
      have := (vput_inj h).1
      omega
    · rw [if_neg hn, List.append_assoc, List.append_assoc, List.append_assoc] at h
      obtain ⟨h1, h2⟩ := vput_inj h
      exact ⟨by omega, .inr ⟨hm, h2⟩⟩
theorem vbare_parts {k n b : Int} {t : List UInt8} {m : Nat} {ks : List (List UInt8)} (h : vbare k n b t m ks = true) :
    (¬ (k = 2 ∨ k = 3 ∨ k = 4 ∨ k = 10 ∨ k = 13) → n = 0) ∧ (¬ (k = 5 ∨ k = 6) → b = 0) ∧ (¬ (k = 7 ∨ k = 8 ∨ k = 14) → t = []) ∧ (¬ (k = 9 ∨ k = 11 ∨ k = 12 ∨ k = 13) → m = 0) ∧ (k ≠ 12 → ks = []) := by
  unfold vbare at h
  simp only [Bool.and_eq_true, Bool.or_eq_true, beq_iff_eq, List.isEmpty_iff] at h
  obtain ⟨h1, h2, h3, h4, h5⟩ := h
  refine ⟨fun g => ?_, fun g => ?_, fun g => ?_, fun g => ?_, fun g => ?_⟩
  · rcases h1 with h1 | h1
    · omega
    · exact h1
  · rcases h2 with h2 | h2
    · omega
    · exact h2
  · rcases h3 with h3 | h3
    · omega
    · exact h3
  · rcases h4 with h4 | h4
    · omega
    · exact h4
  · rcases h5 with h5 | h5
    · omega
    · exact h5
theorem leaf_inj {nd : NT} {n b n' b' : Int} {t t' R S : List UInt8} (h : leafM nd nd.kind n b t ++ R = leafM nd nd.kind n' b' t' ++ S)
    (b0 : 0 ≤ b) (b1 : b < 18446744073709551616) (c0 : 0 ≤ b') (c1 : b' < 18446744073709551616)
    (p14 : nd.kind = 14 → (t.length : Int) = nd.size) (q14 : nd.kind = 14 → (t'.length : Int) = nd.size) (p2 : nd.kind = 2 → n = 0 ∨ n = 1) (q2 : nd.kind = 2 → n' = 0 ∨ n' = 1)
    (p5 : nd.kind = 5 → b < 4294967296) (q5 : nd.kind = 5 → b' < 4294967296) (h13 : nd.kind ≠ 13)
    (z1 : ¬ (nd.kind = 2 ∨ nd.kind = 3 ∨ nd.kind = 4 ∨ nd.kind = 10 ∨ nd.kind = 13) → n = 0) (z2 : ¬ (nd.kind = 5 ∨ nd.kind = 6) → b = 0) (z3 : ¬ (nd.kind = 7 ∨ nd.kind = 8 ∨ nd.kind = 14) → t = [])
    (y1 : ¬ (nd.kind = 2 ∨ nd.kind = 3 ∨ nd.kind = 4 ∨ nd.kind = 10 ∨ nd.kind = 13) → n' = 0) (y2 : ¬ (nd.kind = 5 ∨ nd.kind = 6) → b' = 0) (y3 : ¬ (nd.kind = 7 ∨ nd.kind = 8 ∨ nd.kind = 14) → t' = []) :
    n = n' ∧ b = b' ∧ t = t' ∧ R = S := by
  generalize nd.kind = k at *
  unfold leafM at h
  by_cases h2 : k = 2
  · rw [if_pos h2, if_pos h2] at h
    simp only [List.cons_append, List.nil_append, List.cons.injEq] at h
    obtain ⟨g1, g2⟩ := h
    refine ⟨?_, by rw [z2 (by omega), y2 (by omega)], by rw [z3 (by omega), y3 (by omega)], g2⟩
    rcases p2 h2 with rfl | rfl <;> rcases q2 h2 with rfl | rfl <;> first | rfl | (revert g1; decide)
  rw [if_neg h2, if_neg h2] at h
  by_cases h3 : k = 3 ∨ k = 4 ∨ k = 10
  · rw [if_pos h3, if_pos h3] at h
    obtain ⟨g1, g2⟩ := vput_inj h
    exact ⟨g1, by rw [z2 (by omega), y2 (by omega)], by rw [z3 (by omega), y3 (by omega)], g2⟩
  rw [if_neg h3, if_neg h3] at h
  have en : n = n' := by rw [z1 (by omega), y1 (by omega)]
  by_cases h5 : k = 5
  · rw [if_pos h5, if_pos h5] at h
    have := p5 h5
    have := q5 h5
    obtain ⟨g1, g2⟩ := bits_inj h b0 c0 (by omega) (by omega)
    exact ⟨en, g1, by rw [z3 (by omega), y3 (by omega)], g2⟩
  rw [if_neg h5, if_neg h5] at h
  by_cases h6 : k = 6
  · rw [if_pos h6, if_pos h6] at h
    obtain ⟨g1, g2⟩ := bits_inj h b0 c0 (by omega) (by omega)
    exact ⟨en, g1, by rw [z3 (by omega), y3 (by omega)], g2⟩
  rw [if_neg h6, if_neg h6] at h
  have eb : b = b' := by rw [z2 (by omega), y2 (by omega)]
  by_cases h7 : k = 7 ∨ k = 8
  · rw [if_pos h7, if_pos h7, List.append_assoc, List.append_assoc] at h
    obtain ⟨g1, g2⟩ := vput_inj h
    obtain ⟨g3, g4⟩ := List.append_inj g2 (by omega)
    exact ⟨en, eb, g3, g4⟩
  rw [if_neg h7, if_neg h7] at h
  by_cases h14 : k = 14
  · rw [if_pos h14, if_pos h14] at h
    have := p14 h14
    have := q14 h14
    obtain ⟨g3, g4⟩ := List.append_inj h (by omega)
    exact ⟨en, eb, g3, g4⟩
  rw [if_neg h14, if_neg h14] at h
  exact ⟨en, eb, by rw [z3 (by omega), y3 (by omega)], h⟩
mutual
theorem enc_inj (ns : List NT) : ∀ (v w : VT) (a : Int), v.inr → w.inr → isM ns a v = true → isM ns a w = true → ∀ R S, encP ns a v ++ R = encP ns a w ++ S → v = w ∧ R = S
  | .mk k n b t xs ks, .mk k' n' b' t' xs' ks', a, hi, hi', hv, hw, R, S, h => by
    have hE := items_inj ns xs
    have hK := keys_inj ns xs
    cases hnd : ns[a.toNat]? with
    | none => rw [isM, hnd] at hv; simp at hv
    | some nd =>
    obtain ⟨rfl, hb, _, p9, p12, p13, p14, p2, p5⟩ := isM_parts hnd hv
    obtain ⟨rfl, hb', _, q9, q12, q13, q14, q2, q5⟩ := isM_parts hnd hw
    rw [isM_eq hnd, Bool.and_eq_true] at hv hw
    have hx := hv.2
    have hx' := hw.2
    rw [encP_eq hnd, encP_eq hnd] at h
    obtain ⟨z1, z2, z3, z4, z5⟩ := vbare_parts hb
    obtain ⟨y1, y2, y3, y4, y5⟩ := vbare_parts hb'
    obtain ⟨⟨b0, b1⟩, hi1⟩ := hi
    obtain ⟨⟨c0, c1⟩, hi2⟩ := hi'
    by_cases h9 : nd.kind = 9
    · rw [if_pos h9, if_pos h9] at h
      have e9 : ∀ n, itemAt nd n = fun j => typeAt nd j := fun n => by funext i; rw [itemAt, if_pos h9]
      rw [e9] at hx hx'
      obtain ⟨g1, g2⟩ := hE xs' _ hi1 hi2 hx hx' (by rw [p9 h9, q9 h9]) R S h
      refine ⟨?_, g2⟩
      rw [g1, z1 (by omega), y1 (by omega), z2 (by omega), y2 (by omega), z3 (by omega), y3 (by omega), z5 (by omega), y5 (by omega)]
    rw [if_neg h9, if_neg h9] at h
    by_cases h11 : nd.kind = 11
    · rw [if_pos h11, if_pos h11] at h
      have e9 : ∀ n, itemAt nd n = fun _ => nd.items := fun n => by funext i; rw [itemAt, if_neg h9, if_neg (by omega)]
      rw [e9] at hx hx'
      obtain ⟨g0, g⟩ := blk_inj h
      have key : xs = xs' ∧ R = S := by
        rcases g with ⟨g1, g2⟩ | ⟨_, g2⟩
        · rw [List.eq_nil_of_length_eq_zero g1, List.eq_nil_of_length_eq_zero (show xs'.length = 0 by omega)]
          exact ⟨rfl, g2⟩
        · obtain ⟨g3, g4⟩ := hE xs' _ hi1 hi2 hx hx' g0 _ _ g2
          exact ⟨g3, List.append_cancel_left g4⟩
      refine ⟨?_, key.2⟩
      rw [key.1, z1 (by omega), y1 (by omega), z2 (by omega), y2 (by omega), z3 (by omega), y3 (by omega), z5 (by omega), y5 (by omega)]
    rw [if_neg h11, if_neg h11] at h
    by_cases h12 : nd.kind = 12
    · rw [if_pos h12, if_pos h12] at h
      have e9 : ∀ n, itemAt nd n = fun _ => nd.items := fun n => by funext i; rw [itemAt, if_neg h9, if_neg (by omega)]
      rw [e9] at hx hx'
      have l1 := p12 h12
      have l2 := q12 h12
      obtain ⟨g0, g⟩ := blk_inj h
      have key : (ks = ks' ∧ xs = xs') ∧ R = S := by
        rcases g with ⟨g1, g2⟩ | ⟨_, g2⟩
        · rw [List.eq_nil_of_length_eq_zero (show xs.length = 0 by omega), List.eq_nil_of_length_eq_zero (show xs'.length = 0 by omega), List.eq_nil_of_length_eq_zero (show ks.length = 0 by omega), List.eq_nil_of_length_eq_zero (show ks'.length = 0 by omega)]
          exact ⟨⟨rfl, rfl⟩, g2⟩
        · obtain ⟨g3, g4⟩ := hK xs' ks ks' _ hi1 hi2 hx hx' (by omega) (by omega) (by omega) _ _ g2
          exact ⟨g3, List.append_cancel_left g4⟩
      refine ⟨?_, key.2⟩
      rw [key.1.1, key.1.2, z1 (by omega), y1 (by omega), z2 (by omega), y2 (by omega), z3 (by omega), y3 (by omega)]
    rw [if_neg h12, if_neg h12] at h
    by_cases h13 : nd.kind = 13
    · rw [if_pos h13, if_pos h13, List.append_assoc, List.append_assoc] at h
      obtain ⟨rfl, g⟩ := vput_inj h
      have e9 : itemAt nd n = fun _ => branchAt nd n := by funext i; rw [itemAt, if_neg h9, if_pos h13]
      rw [e9] at hx hx'
      obtain ⟨g1, g2⟩ := hE xs' _ hi1 hi2 hx hx' (by rw [(p13 h13).2.2, (q13 h13).2.2]) R S g
      refine ⟨?_, g2⟩
      rw [g1, z2 (by omega), y2 (by omega), z3 (by omega), y3 (by omega), z5 (by omega), y5 (by omega)]
    rw [if_neg h13, if_neg h13] at h
    obtain ⟨g1, g2, g3, g4⟩ := leaf_inj h b0 b1 c0 c1 p14 q14 p2 q2 p5 q5 h13 z1 z2 z3 y1 y2 y3
    refine ⟨?_, g4⟩
    rw [g1, g2, g3, z5 (by omega), y5 (by omega), List.eq_nil_of_length_eq_zero (z4 (by omega)), List.eq_nil_of_length_eq_zero (y4 (by omega))]
theorem items_inj (ns : List NT) : ∀ (xs ys : List VT) (f : Nat → Int), VT.inrL xs → VT.inrL ys → eachM ns f xs = true → eachM ns f ys = true → xs.length = ys.length → ∀ R S, catP ns f xs ++ R = catP ns f ys ++ S → xs = ys ∧ R = S
  | [], [], f, _, _, _, _, _, R, S, h => ⟨rfl, by rw [catP_nil] at h; exact h⟩
  | [], y :: ys, f, _, _, _, _, hl, R, S, h => by simp at hl
  | x :: xs, [], f, _, _, _, _, hl, R, S, h => by simp at hl
  | x :: xs, y :: ys, f, hi, hj, hx, hy, hl, R, S, h => by
    rw [eachM, Bool.and_eq_true] at hx hy
    rw [catP_cons, catP_cons, List.append_assoc, List.append_assoc] at h
    obtain ⟨g1, g2⟩ := enc_inj ns x y (f 0) hi.1 hj.1 hx.1 hy.1 _ _ h
    obtain ⟨g3, g4⟩ := items_inj ns xs ys _ hi.2 hj.2 hx.2 hy.2 (by simpa using hl) _ _ g2
    exact ⟨by rw [g1, g3], g4⟩
theorem keys_inj (ns : List NT) : ∀ (xs ys : List VT) (ks js : List (List UInt8)) (f : Nat → Int), VT.inrL xs → VT.inrL ys → eachM ns f xs = true → eachM ns f ys = true → xs.length = ys.length → ks.length = xs.length → js.length = ys.length → ∀ R S, catK ns f ks xs ++ R = catK ns f js ys ++ S → (ks = js ∧ xs = ys) ∧ R = S
  | [], [], [], [], f, _, _, _, _, _, _, _, R, S, h => ⟨⟨rfl, rfl⟩, by rw [catK, encsM] at h; exact h⟩
  | [], [], [], j :: js, f, _, _, _, _, _, _, hj, R, S, h => by simp at hj
  | [], [], k :: ks, js, f, _, _, _, _, _, hk, _, R, S, h => by simp at hk
  | [], y :: ys, ks, js, f, _, _, _, _, hl, _, _, R, S, h => by simp at hl
  | x :: xs, [], ks, js, f, _, _, _, _, hl, _, _, R, S, h => by simp at hl
  | x :: xs, y :: ys, [], js, f, _, _, _, _, _, hk, _, R, S, h => by simp at hk
  | x :: xs, y :: ys, k :: ks, [], f, _, _, _, _, _, _, hj, R, S, h => by simp at hj
  | x :: xs, y :: ys, k :: ks, j :: js, f, hi, hj, hx, hy, hl, hk, hjl, R, S, h => by
    rw [eachM, Bool.and_eq_true] at hx hy
    rw [catK_cons, catK_cons] at h
    simp only [List.append_assoc] at h
    obtain ⟨a1, a2⟩ := vput_inj h
    obtain ⟨a3, a4⟩ := List.append_inj a2 (by omega)
    obtain ⟨g1, g2⟩ := enc_inj ns x y (f 0) hi.1 hj.1 hx.1 hy.1 _ _ a4
    obtain ⟨g3, g4⟩ := keys_inj ns xs ys ks js _ hi.2 hj.2 hx.2 hy.2 (by simpa using hl) (by simpa using hk) (by simpa using hjl) _ _ g2
    exact ⟨⟨by rw [a3, g3.1], by rw [g1, g3.2]⟩, g4⟩
end

structure Fine (s : ST) (d : Nat) (a : Int) (v : VT) : Prop where
  is : isM s.nodes a v = true
  deep : vdeep v ≤ d
  inr : v.inr
  lng : v.lng
  sm : v.sm 1000000
def tyL (ts : List FT) (i : Nat) : Int := match ts[i]? with | some f => f.type | none => -1
structure Items (s : ST) (d : Nat) (b : Bool) (a : Int) (zs : List VT) (ls : List (List UInt8)) : Prop where
  each : ∀ z ∈ zs, Fine s d a z
  keys : ∀ y ∈ ls, keyM y = true
  len : ls.length = if b = true then zs.length else 0
theorem Items.app {s : ST} {d : Nat} {b : Bool} {a : Int} {zs ys : List VT} {ls ms : List (List UInt8)} (h : Items s d b a zs ls) (h' : Items s d b a ys ms) : Items s d b a (zs ++ ys) (ls ++ ms) := by
  refine ⟨fun z hz => ?_, fun y hy => ?_, ?_⟩
  · rcases List.mem_append.1 hz with hz | hz
    · exact h.each z hz
    · exact h'.each z hz
  · rcases List.mem_append.1 hy with hy | hy
    · exact h.keys y hy
    · exact h'.keys y hy
  · rw [List.length_append, List.length_append, h.len, h'.len]
    split <;> rfl
def v0 : VT := .mk 0 0 0 [] [] []
noncomputable def takeM (s : ST) (a : Int) (B : List UInt8) (p : Int) : VT × Int × Int :=
  if a < 0 ∨ (s.nodes.length : Int) ≤ a ∨ p < 0 ∨ (B.length : Int) < p ∨ rightM s = false then (v0, p, 2)
  else match decM s.nodes 20 a B p.toNat with
    | .error e => (v0, p, e)
    | .ok (v, q) => (v, (q : Int), 0)
noncomputable def dallM (s : ST) (a : Int) (B : List UInt8) : VT × Int :=
  let t := takeM s a B 0
  if t.2.2 ≠ 0 then (v0, t.2.2) else if t.2.1 < (B.length : Int) then (v0, 12) else (t.1, 0)
end
end Go.Proofs.YtllnlmchjljhlaaGreatDoor
