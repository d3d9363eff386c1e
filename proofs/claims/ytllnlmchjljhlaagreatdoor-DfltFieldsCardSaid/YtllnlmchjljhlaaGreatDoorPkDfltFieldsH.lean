/- Texts that lead to the law DfltFields, joined. -/
import Derived.Test.YtllnlmchjljhlaaGreatDoorPkDfltFieldsD
import Derived.Test.YtllnlmchjljhlaaGreatDoorPkDfltFieldsG
import Derived.Test.YtllnlmchjljhlaaGreatDoorPkDfltFieldsB
import Derived.Test.YtllnlmchjljhlaaGreatDoorPkDfltFieldsC
import Derived.Test.YtllnlmchjljhlaaGreatDoorPkDfltFieldsA
namespace Go.Proofs.YtllnlmchjljhlaaGreatDoor
open Go.RowKit
set_option linter.unusedVariables false
set_option linter.unusedSimpArgs false
section
attribute [local go_sem] opx opE ev okx gcond bnd okO AV.get AV.okb cAV upd_at putd_some putd_none wrs_nil wrs_cons look_nil look_cons st argT_at bpick_and bpick_or bpick_true bpick_false binV binI binS binVOk binOk isShift binSOk unV unVOk loadV loadP cellsA zeroA Blkd.len setE grown moreA moreR moreOk eqRes pv fillA fillE putSeg AV.cellish AV.pureL AV.pureB lentL_is ex_some AV.ren AV.renL renL_c Blkd.ren rho wrM renN lentOk rhoE keepM endOk tyA_2 tyA_3 tyA_4 tyA_5 tyA_6 tyA_7 tyA_8 tyA_9 tyA_10 tyA_11 tyA_12 tyA_13 tyA_14 tyA_15 tyA_16 tyA_17 tyA_18 tyA_19 tyA_21 tyA_22 tyA_23 tyA_24 tyA_29 tyA_30 tyA_31 tyA_32 tyA_33 tyA_34 tyA_35 tyA_36 tyA_37 tyA_38 tyA_39 tyA_40 tyA_41 tyA_42 tyA_43 tyA_49 tyA_85 tyA_89 tyA_99 tyA_100 tyA_101 tyA_105 tyA_106 tyA_107 tyA_108 tyA_109 tyA_111 tyA_112 tyA_113 tyA_114 tyA_123 tyA_126 tyA_127 tyA_128 tyA_129 tyA_130 tyA_153 tyA_163 tyA_164 tyA_165 tyA_179 tyA_185 tyA_191 tyA_192 tyA_193 tyA_194 tyA_195 tyA_196 tyA_209 tyA_213 tyA_214 tyA_215 tyA_241 tyA_248 tyA_274 tyA_275 tyA_276 tyA_292 tyA_294 tyA_302 tyA_307 tyA_315 tyA_319 tyA_321 tyA_324 tyA_325 tyA_326 tyA_327 tyA_328 tyA_329 tyA_330 tyA_332 tyA_333 Option.map_some Option.map_none Option.getD_some Option.getD_none Option.bind_some Option.bind_none List.getElem?_cons_zero List.getElem?_cons_succ List.getElem?_nil List.getElem?_toArray List.length_cons List.length_nil List.length_map List.forall_mem_map List.map_cons List.map_nil List.drop_zero List.drop_succ_cons List.drop_nil List.take_zero List.take_succ_cons List.take_nil List.mem_cons List.not_mem_nil or_false forall_eq_or_imp forall_eq List.set_cons_zero List.set_cons_succ List.cons_append List.nil_append List.append_nil List.foldl_cons List.foldl_nil List.replicate_succ List.replicate_zero List.all_cons List.all_nil if_true if_false Bool.false_eq_true ne_eq not_false_eq_true not_true_eq_false true_and and_true and_self true_implies imp_self implies_true forall_const beq_self_eq_true Bool.and_true Bool.true_and Bool.and_false Bool.false_and Bool.or_true Bool.true_or Bool.or_false Bool.false_or Bool.not_true Bool.not_false Bool.not_eq_eq_eq_not intKindOf Value.oneCell' Int.toNat_natCast beq_true beq_false Bool.not_eq_true false_implies false_or true_or or_true Nat.zero_add Nat.add_zero decide_true decide_false Int.cast_ofNat_Int Int.toNat_zero Int.toNat_one eq_self

theorem rnamed10_told (k : Int) : Told Tryz.prog 109 [.c (.v (.int .i64 k))] (.c (.v (.bool (namedK k)))) := by
  obtain ⟨V, hV⟩ : ∃ V, V = namedK k := ⟨_, rfl⟩
  rw [← hV]
  unfold namedK at hV
  replace hV := Lib.hid hV
  refine VC.told ent_109 Tryz.func109 rfl Tryz.ntmps109 (by simp) (by first | rfl | simp [AV.pureB, AV.pureL, pureL_c, pures]) (by first | rfl | simp [AV.pureB, AV.pureL, pureL_c, pures]) fun hb => ?_
  clear hb
  refine walkG ?_
  refine ⟨by first | exact .inr rfl | exact .inl rfl, ?_⟩; rw [Tryz.results109]; simp only [resOk, resV, go_sem, simprocAttr]
  rw [hV.out]
  exact .c _
set_option maxRecDepth 100000 in
set_option maxHeartbeats 1600000 in
theorem rkids_told (n : NT) (hn : n.sm 1000000) : Told Tryz.prog 139 [n.av] (.c (.sl 1 ((kidsN n).map iPV))) := by
  obtain ⟨L, hL⟩ : ∃ L, L = kidsN n := ⟨_, rfl⟩
  rw [← hL]
  unfold kidsN at hL
  have hfl := hn.2.2.2.2.2.1
  have hbl := hn.2.2.2.2.1
  rw [NT.av_eq, ncells_mk]
  refine VC.told ent_139 Tryz.func139 rfl Tryz.ntmps139 (by simp) (by first | rfl | simp [AV.pureB, AV.pureL, pureL_c, pures]) (by first | rfl | simp [AV.pureB, AV.pureL, pureL_c, pures]) fun hb => ?_
  clear hb
  by_cases h9 : n.kind = 9
  · rw [if_pos h9] at hL
    subst hL
    rw [h9]
    refine walkB ?_
    refine VC.nil 3 3 1 (by rfl) (by trivial) (by rfl) ?_
    refine VC.loop (ι := {i : Nat // i ≤ n.fields.length}) (fun q => [(1, .ref 0 1 0 0), (3, .row 56 q.1), (4, .c (.v (.int .i64 (q.1 : Int))))])
      (fun q => [(0, ⟨false, 33, 10, [({n with kind := 9} : NT).cells.map .c]⟩), (56, ⟨true, 3, 1, rA iPV ((n.fields.map (·.type)).take q.1)⟩)]) 800 (fun q => n.fields.length - q.1) ⟨0, Nat.zero_le _⟩ ?_ ?_
    · simp only [rA_len, rA_sc, rA_nil, ncells_mk, Weak, eq_self, used_is, sc_any, sc_c, sc_pp, sc_ref, sc_row, sc_agg, sc_fn, ScL, some_imp, List.forall_mem_map, go_sem, Int.reduceBEq, Int.reduceLE, Int.reduceLT, Int.reduceNeg, Nat.reduceAdd, Nat.reduceEqDiff, Nat.reduceLT, Nat.reduceLeDiff, Nat.reduceMul, Nat.reduceSub, reduceCtorEq, ↓reduceIte]
      try simp
    rintro ⟨i, hi⟩
    simp only []
    refine walkGF (@ncells_mk) ?_
    refine VC.cond (by rfl) (by trivial) (fun hc => ?_) (fun hc => ?_)
    · have hlt : i < n.fields.length := by simp at hc; omega
      obtain ⟨f, hx⟩ : ∃ f, n.fields[i]? = some f := ⟨n.fields[i], List.getElem?_eq_getElem hlt⟩
      have hw : IntKind.i64.wrap ((i : Int) + 1) = (i : Int) + 1 := wrap64_id (by omega) (by omega)
      have hxp : (n.fields.map FT.cells)[i]? = some f.cells := by rw [List.getElem?_map, hx]; rfl
      have hl : (rA iPV ((n.fields.map (·.type)).take i)).length = i := by rw [rA_len]; simp; omega
      have hr : rA iPV ((n.fields.map (·.type)).take i) ++ [[.c (.v (.int .i64 f.type))]] = rA iPV ((n.fields.map (·.type)).take (i + 1)) := by
        rw [List.take_add_one, List.getElem?_map, hx]
        exact rA_one iPV _ f.type
      have hl2 : (rA iPV ((n.fields.map (·.type)).take (i + 1))).length = i + 1 := by rw [rA_len]; simp; omega
      refine walkGF (And.intro @ncells_mk (And.intro hxp (And.intro @fcells_mk (And.intro @len_cells (And.intro @take_cells (And.intro @take_cellsC (And.intro hl (And.intro hr hw)))))))) ?_
      refine .next ⟨i + 1, by omega⟩ ?_ (by simp only []; omega)
      simp only [hl2, rA_sc, ncells_mk, Weak, eq_self, used_is, sc_any, sc_c, sc_pp, sc_ref, sc_row, sc_agg, sc_fn, ScL, some_imp, List.forall_mem_map, go_sem, Int.reduceBEq, Int.reduceLE, Int.reduceLT, Int.reduceNeg, Nat.reduceAdd, Nat.reduceEqDiff, Nat.reduceLT, Nat.reduceLeDiff, Nat.reduceMul, Nat.reduceSub, reduceCtorEq, ↓reduceIte]
      exact ⟨cI (by omega), Nat.le_refl _⟩
    · have hie : i = n.fields.length := by simp at hc; omega
      have htk : (n.fields.map (·.type)).take i = n.fields.map (·.type) := List.take_of_length_le (by simp; omega)
      rw [htk]
      refine walkBF (And.intro hie @ncells_mk) ?_
      refine ⟨by first | exact .inr rfl | exact .inl rfl, ?_⟩; rw [Tryz.results139]; simp only [resOk, resV, go_sem, simprocAttr]
      apply frz_rA (f := iPV) (l := n.fields.map (·.type)) (T := 3)
      · rfl
      · simp [hie]
      · rfl
      · simp [iPV]
  by_cases h11 : n.kind = 11
  · rw [if_neg h9, if_pos (.inl h11)] at hL
    subst hL
    rw [h11]
    refine walkB ?_
    refine ⟨by first | exact .inr rfl | exact .inl rfl, ?_⟩; rw [Tryz.results139]; simp only [resOk, resV, go_sem, simprocAttr]
    exact frz_rA (f := iPV) (l := [n.items]) rfl rfl rfl (by simp [iPV])
  by_cases h12 : n.kind = 12
  · rw [if_neg h9, if_pos (.inr h12)] at hL
    subst hL
    rw [h12]
    refine walkB ?_
    refine ⟨by first | exact .inr rfl | exact .inl rfl, ?_⟩; rw [Tryz.results139]; simp only [resOk, resV, go_sem, simprocAttr]
    exact frz_rA (f := iPV) (l := [n.items]) rfl rfl rfl (by simp [iPV])
  by_cases h13 : n.kind = 13
  · rw [if_neg h9, if_neg (by simp [h11, h12]), if_pos h13] at hL
    subst hL
    rw [h13]
    refine walkB ?_
    refine ⟨by first | exact .inr rfl | exact .inl rfl, ?_⟩; rw [Tryz.results139]; simp only [resOk, resV, go_sem, simprocAttr]
    refine frz_rA (f := iPV) (l := n.branches) (T := 3) ?_ ?_ rfl (by simp [iPV])
    · simp [upd_at, rA_pv]
    · simp
  · rw [if_neg h9, if_neg (by simp [h11, h12]), if_neg h13] at hL
    subst hL
    have e9 : (n.kind == 9) = false := by simpa using h9
    have e11 : (n.kind == 11) = false := by simpa using h11
    have e12 : (n.kind == 12) = false := by simpa using h12
    have e13 : (n.kind == 13) = false := by simpa using h13
    refine walkBF (And.intro e9 (And.intro e11 (And.intro e12 e13))) ?_
    refine ⟨by first | exact .inr rfl | exact .inl rfl, ?_⟩; rw [Tryz.results139]; simp only [resOk, resV, go_sem, simprocAttr]
    exact .nil _
set_option maxRecDepth 100000 in
set_option maxHeartbeats 1600000 in
theorem met_told (s : ST) (hl : s.nodes.length ≤ 1000000) (hs : ∀ n ∈ s.nodes, n.sm 1000000) : ∀ (d : Nat) (z : Int), z = 33 - (d : Int) → d ≤ 33 → ∀ p : Nat, p ≤ s.nodes.length →
    Told Tryz.prog 183 [s.av, .c (.v (.int .i64 (p : Int))), .c (.v (.int .i64 z))] (.c (.v (.int .i64 (metM s.nodes d p)))) := by
  intro d
  induction d with
  | zero =>
    intro z hz hd p hp
    have hz2 : decide (z > 32) = true := by simp; omega
    have hm : metM s.nodes 0 p = -1 := by simp [metM, walkM]
    rw [hm, ST.av_eq, scells_mk]
    refine VC.told ent_183 Tryz.func183 rfl Tryz.ntmps183 (by simp) (by first | rfl | simp [AV.pureB, AV.pureL, pureL_c, pures]) (by first | rfl | simp [AV.pureB, AV.pureL, pureL_c, pures]) fun hb => ?_
    clear hb
    refine walkGF (hz2) ?_
    refine VC.cond (by rfl) (by trivial) (fun hc => ?_) (fun hc => ?_)
    · refine walkG ?_
      refine ⟨by first | exact .inr rfl | exact .inl rfl, ?_⟩; rw [Tryz.results183]; simp only [resOk, resV, go_sem, simprocAttr]
      exact .c _
    · exact absurd hc (by simp)
  | succ d ih =>
    intro z hz hd p hp
    have hz2 : decide (z > 32) = false := by simp; omega
    have hwz : IntKind.i64.wrap (z + 1) = z + 1 := wrap64_id (by omega) (by omega)
    have hI := ih (z + 1) (by omega) (by omega)
    clear ih
    obtain ⟨V, hV⟩ : ∃ V, V = metM s.nodes (d + 1) p := ⟨_, rfl⟩
    rw [← hV]
    unfold metM at hV
    obtain ⟨R, hR⟩ : ∃ R, R = walkM s.nodes (d + 1) p := ⟨_, rfl⟩
    rw [← hR] at hV
    rw [walkM] at hR
    have hle := walkM_le s.nodes d
    rw [ST.av_eq, scells_mk]
    simp only [ST.av_eq, scells_mk, List.map_cons, List.map_nil] at hI
    by_cases hlt : p < s.nodes.length
    · obtain ⟨n, hn⟩ : ∃ n, s.nodes[p]? = some n := ⟨s.nodes[p], List.getElem?_eq_getElem hlt⟩
      have hnp : (s.nodes.map NT.cells)[p]? = some n.cells := by rw [List.getElem?_map, hn]; rfl
      have hge : decide ((p : Int) ≥ (s.nodes.length : Int)) = false := by simp; omega
      have hwp : IntKind.i64.wrap ((p : Int) + 1) = ((p + 1 : Nat) : Int) := by rw [wrap64_id (by omega) (by omega)]; rfl
      have hns := hs n (List.mem_of_getElem? hn)
      have hKi := rkids_told n hns
      have hkl := kids_len hns
      rw [hn] at hR
      simp only [] at hR
      obtain ⟨ks, hks⟩ : ∃ ks, ks = kidsN n := ⟨_, rfl⟩
      rw [← hks] at hKi hR hkl
      simp only [NT.av_eq] at hKi
      clear hks
      refine VC.told ent_183 Tryz.func183 rfl Tryz.ntmps183 (by simp) (by first | rfl | simp [AV.pureB, AV.pureL, pureL_c, pures]) (by first | rfl | simp [AV.pureB, AV.pureL, pureL_c, pures]) fun hb => ?_
      clear hb
      refine walkGF (And.intro hge hz2) ?_
      refine VC.cond (by rfl) (by trivial) (fun hc => ?_) (fun hc => ?_)
      · exact absurd hc (by simp)
      refine walkGF (And.intro hwp (And.intro hnp (And.intro @len_ncells (And.intro @take_ncells @take_ncellsC)))) ?_
      refine walkCF (@pureL_c) (hKi) ?_
      refine walkG ?_
      clear hKi
      refine VC.loop (ι := {x : Nat × Nat // x.1 ≤ ks.length ∧ x.2 ≤ s.nodes.length ∧ walkK s.nodes (walkM s.nodes d) (ks.drop x.1) x.2 = R})
        (fun q => [(2, .c (.v (.int .i64 z))), (3, .ref 0 1 0 0), (7, .c (.v (.int .i64 (q.1.2 : Int)))), (8, .c (.sl 1 (ks.map iPV))), (9, .c (.v (.int .i64 (q.1.1 : Int))))])
        (fun q => [(0, ⟨false, 24, 2, [[.c (.sl 10 (s.nodes.map NT.cells)), .c (.v (.int .i64 s.root))]]⟩)]) 800 (fun q => ks.length - q.1.1) ⟨(0, p + 1), Nat.zero_le _, hlt, by rw [List.drop_zero]; exact hR.symm⟩ ?_ ?_
      · simp only [Weak, eq_self, used_is, sc_any, sc_c, sc_pp, sc_ref, sc_row, sc_agg, sc_fn, ScL, some_imp, List.forall_mem_map, go_sem, Int.reduceBEq, Int.reduceLE, Int.reduceLT, Int.reduceNeg, Nat.reduceAdd, Nat.reduceEqDiff, Nat.reduceLT, Nat.reduceLeDiff, Nat.reduceMul, Nat.reduceSub, reduceCtorEq, ↓reduceIte]
        try simp
      clear hR
      rintro ⟨⟨i, q⟩, hi, hq, hR⟩
      simp only [] at hi hq hR ⊢
      refine walkG ?_
      refine VC.cond (by rfl) (by trivial) (fun hc2 => ?_) (fun hc2 => ?_)
      · have hil : i < ks.length := by simp at hc2; omega
        obtain ⟨x, hx⟩ : ∃ x, ks[i]? = some x := ⟨ks[i], List.getElem?_eq_getElem hil⟩
        have hxp : (ks.map iPV)[i]? = some (iPV x) := by rw [List.getElem?_map, hx]; rfl
        have hw : IntKind.i64.wrap ((i : Int) + 1) = (i : Int) + 1 := wrap64_id (by omega) (by omega)
        rw [drop_at' hx, walkK] at hR
        by_cases hx0 : x < 0
        · have hf : R = (false, q) := by
            rw [if_neg (by omega), if_pos (.inl hx0)] at hR
            exact hR.symm
          subst hf
          obtain rfl : V = -1 := hV
          have e0 : decide (x < 0) = true := by simpa using hx0
          refine walkBF (And.intro hxp (And.intro @iPV_eq e0)) ?_
          refine ⟨by first | exact .inr rfl | exact .inl rfl, ?_⟩; rw [Tryz.results183]; simp only [resOk, resV, go_sem, simprocAttr]
          exact .c _
        have e0 : decide (x < 0) = false := by simpa using hx0
        by_cases hxq : x > (q : Int)
        · have hf : R = (false, q) := by
            rw [if_neg (by omega), if_pos (.inr (.inl hxq))] at hR
            exact hR.symm
          subst hf
          obtain rfl : V = -1 := hV
          have e1 : decide (x > (q : Int)) = true := by simpa using hxq
          refine walkBF (And.intro hxp (And.intro @iPV_eq (And.intro e0 e1))) ?_
          refine ⟨by first | exact .inr rfl | exact .inl rfl, ?_⟩; rw [Tryz.results183]; simp only [resOk, resV, go_sem, simprocAttr]
          exact .c _
        have e1 : decide (x > (q : Int)) = false := by simpa using hxq
        by_cases hk : x = (q : Int)
        · rw [if_pos hk] at hR
          subst hk
          have e2 : decide ((q : Int) < (q : Int)) = false := by simp
          have hkq : ((q : Int) == (q : Int)) = true := by simp
          have hIq := hI q hq
          have hqb := (hle q hq).2
          obtain ⟨D, hD⟩ : ∃ D, D = metM s.nodes d q := ⟨_, rfl⟩
          rw [← hD] at hIq
          unfold metM at hD
          obtain ⟨M, hM⟩ : ∃ M, M = walkM s.nodes d q := ⟨_, rfl⟩
          rw [← hM] at hD hR hqb
          clear hI hM
          refine walkBF (And.intro hxp (And.intro @iPV_eq (And.intro hkq (And.intro hwz (And.intro e0 (And.intro e1 e2)))))) ?_
          refine walkC (hIq) ?_
          cases hm1 : M.1 with
          | false =>
            rw [hm1, if_neg (by simp)] at hD hR
            subst hR
            obtain rfl : V = -1 := hV
            subst hD
            refine walkB ?_
            refine ⟨by first | exact .inr rfl | exact .inl rfl, ?_⟩; rw [Tryz.results183]; simp only [resOk, resV, go_sem, simprocAttr]
            exact .c _
          | true =>
            rw [hm1, if_pos rfl] at hD hR
            subst hD
            have e3 : decide (((M.2 : Nat) : Int) < 0) = false := by simp
            refine walkBF (And.intro e3 hw) ?_
            refine .next ⟨(i + 1, M.2), by simp only []; omega, hqb, hR⟩ ?_ (by simp only []; omega)
            simp only [Weak, eq_self, used_is, sc_any, sc_c, sc_pp, sc_ref, sc_row, sc_agg, sc_fn, ScL, some_imp, List.forall_mem_map, go_sem, Int.reduceBEq, Int.reduceLE, Int.reduceLT, Int.reduceNeg, Nat.reduceAdd, Nat.reduceEqDiff, Nat.reduceLT, Nat.reduceLeDiff, Nat.reduceMul, Nat.reduceSub, reduceCtorEq, ↓reduceIte]
            try exact cI (by omega)
        · rw [if_neg hk] at hR
          have e2 : decide (x < (q : Int)) = true := by simp; omega
          have hkq : (x == (q : Int)) = false := by simpa using hk
          obtain ⟨j, rfl⟩ : ∃ j : Nat, x = (j : Int) := ⟨x.toNat, by omega⟩
          have hj : j < s.nodes.length := by omega
          obtain ⟨m, hm⟩ : ∃ m, s.nodes[j]? = some m := ⟨s.nodes[j], List.getElem?_eq_getElem hj⟩
          have hmp : (s.nodes.map NT.cells)[j]? = some m.cells := by rw [List.getElem?_map, hm]; rfl
          have hka : kindAt s.nodes ((j : Int)).toNat = m.kind := by rw [Int.toNat_natCast, kindAt, hm]
          rw [hka] at hR
          have hN := rnamed10_told m.kind
          refine walkBF (And.intro hxp (And.intro @iPV_eq (And.intro hkq (And.intro e0 (And.intro e1 (And.intro e2 (And.intro hmp @ncells_mk))))))) ?_
          refine walkC (hN) ?_
          refine walkGF (hkq) ?_
          refine VC.cond (by rfl) (by trivial) (fun hc3 => ?_) (fun hc3 => ?_)
          · have hf : R = (false, q) := by
              rw [if_pos (.inr (.inr (by simpa using hc3)))] at hR
              exact hR.symm
            subst hf
            obtain rfl : V = -1 := hV
            refine walkG ?_
            refine ⟨by first | exact .inr rfl | exact .inl rfl, ?_⟩; rw [Tryz.results183]; simp only [resOk, resV, go_sem, simprocAttr]
            exact .c _
          · have hnn : namedK m.kind = true := by simpa using hc3
            have hno : ¬ ((j : Int) < 0 ∨ (j : Int) > (q : Int) ∨ namedK m.kind = false) := by
              rintro (h | h | h)
              · exact hx0 h
              · exact hxq h
              · rw [hnn] at h
                exact absurd h (by simp)
            rw [if_neg hno] at hR
            refine walkBF (And.intro hw hkq) ?_
            refine .next ⟨(i + 1, q), by simp only []; omega, hq, hR⟩ ?_ (by simp only []; omega)
            simp only [Weak, eq_self, used_is, sc_any, sc_c, sc_pp, sc_ref, sc_row, sc_agg, sc_fn, ScL, some_imp, List.forall_mem_map, go_sem, Int.reduceBEq, Int.reduceLE, Int.reduceLT, Int.reduceNeg, Nat.reduceAdd, Nat.reduceEqDiff, Nat.reduceLT, Nat.reduceLeDiff, Nat.reduceMul, Nat.reduceSub, reduceCtorEq, ↓reduceIte]
            try exact cI (by omega)
      · have hie : i = ks.length := by simp at hc2; omega
        have hf : R = (true, q) := by
          rw [hie, List.drop_length, walkK] at hR
          exact hR.symm
        subst hf
        obtain rfl : V = (q : Int) := hV
        refine walkG ?_
        refine ⟨by first | exact .inr rfl | exact .inl rfl, ?_⟩; rw [Tryz.results183]; simp only [resOk, resV, go_sem, simprocAttr]
        exact .c _
    · have hR : R = (false, p) := by
        rw [hR, List.getElem?_eq_none (by omega)]
      subst hR
      obtain rfl : V = -1 := hV
      have hge : decide ((p : Int) ≥ (s.nodes.length : Int)) = true := by simp; omega
      refine VC.told ent_183 Tryz.func183 rfl Tryz.ntmps183 (by simp) (by first | rfl | simp [AV.pureB, AV.pureL, pureL_c, pures]) (by first | rfl | simp [AV.pureB, AV.pureL, pureL_c, pures]) fun hb => ?_
      clear hb
      refine walkGF (hge) ?_
      refine VC.cond (by rfl) (by trivial) (fun hc => ?_) (fun hc => ?_)
      · refine walkG ?_
        refine ⟨by first | exact .inr rfl | exact .inl rfl, ?_⟩; rw [Tryz.results183]; simp only [resOk, resV, go_sem, simprocAttr]
        exact .c _
      · exact absurd hc (by simp)
set_option maxRecDepth 100000 in
set_option maxHeartbeats 800000 in
theorem rordered_told (s : ST) (hl : s.nodes.length ≤ 1000000) (hs : ∀ n ∈ s.nodes, n.sm 1000000) : Told Tryz.prog 106 [s.av] (.c (.v (.bool (orderedM s)))) := by
  have hW := met_told s hl hs 33 0 (by omega) (by omega) 0 (Nat.zero_le _)
  obtain ⟨D, hD⟩ : ∃ D, D = metM s.nodes 33 0 := ⟨_, rfl⟩
  rw [← hD] at hW
  unfold metM at hD
  have hle := walkM_le s.nodes 33 0 (Nat.zero_le _)
  have hv : orderedM s = (decide ((s.nodes.length : Int) ≥ 1) && decide ((s.nodes.length : Int) ≤ 200) && (s.root == 0) && (D == (s.nodes.length : Int))) := by
    have e1 : decide ((s.nodes.length : Int) ≥ 1) = decide (0 < s.nodes.length) := by simp; omega
    have e2 : decide ((s.nodes.length : Int) ≤ 200) = decide (s.nodes.length ≤ 200) := by simp; omega
    have e3 : (s.root == 0) = decide (s.root = 0) := by by_cases h : s.root = 0 <;> simp [h]
    have e4 : (D == (s.nodes.length : Int)) = ((walkM s.nodes 33 0).1 && decide ((walkM s.nodes 33 0).2 = s.nodes.length)) := by
      rw [hD]
      cases h1 : (walkM s.nodes 33 0).1 with
      | false =>
        simp
      | true =>
        by_cases h : (walkM s.nodes 33 0).2 = s.nodes.length
        · simp [h]
        · have : ¬ (((walkM s.nodes 33 0).2 : Int) = (s.nodes.length : Int)) := by omega
          simp [h, this]
    rw [orderedM, e1, e2, e3, e4]
    simp only [Bool.and_assoc]
  obtain ⟨V, hV⟩ : ∃ V, V = orderedM s := ⟨_, rfl⟩
  rw [← hV] at hv ⊢
  clear hV hD hle
  replace hv := Lib.hid hv
  simp only [ST.av_eq, scells_mk, List.map_cons, List.map_nil] at hW
  rw [ST.av_eq, scells_mk]
  rw [show ((0 : Nat) : Int) = 0 from rfl] at hW
  refine VC.told ent_106 Tryz.func106 rfl Tryz.ntmps106 (by simp) (by first | rfl | simp [AV.pureB, AV.pureL, pureL_c, pures]) (by first | rfl | simp [AV.pureB, AV.pureL, pureL_c, pures]) fun hb => ?_
  clear hb
  refine walkG ?_
  refine walkD (hW) ?_
  refine walkG ?_
  refine ⟨by first | exact .inr rfl | exact .inl rfl, ?_⟩; rw [Tryz.results106]; simp only [resOk, resV, go_sem, simprocAttr]
  rw [hv.out]
  exact .c _

set_option maxRecDepth 100000 in
set_option maxHeartbeats 400000 in
theorem rtextr_told (s : List UInt8) (hs : s.length ≤ 1000000) : Told Tryz.prog 188 [.c (.v (.string (str s)))] (.c (.v (.bool (isRight s)))) := by
  obtain ⟨Z, hC, hd⟩ := rcount3_told s hs
  have hsz : (str s).size = s.length := str_size s
  have hdl : (str s).data.toList = s := by simp [str]
  refine VC.told ent_188 Tryz.func188 rfl Tryz.ntmps188 (by simp) (by first | rfl | simp [AV.pureB, AV.pureL, pureL_c, pures]) (by first | rfl | simp [AV.pureB, AV.pureL, pureL_c, pures]) fun hb => ?_
  clear hb
  refine walkGF (And.intro hsz hdl) ?_
  refine walkCF (And.intro hsz hdl) (hC) ?_
  refine walkGF (hd) ?_
  refine ⟨by first | exact .inr rfl | exact .inl rfl, ?_⟩; rw [Tryz.results188]; simp only [resOk, resV, go_sem, simprocAttr]
  exact .c _

theorem takeN {α : Type} {l : List α} {i : Nat} {x : α} (h : l[i]? = some x) : l.take (i + 1) = l.take i ++ [x] := by
  rw [List.take_add_one, h]
  rfl
theorem rshapes_all : ∀ xs : List JT, rshapes xs = xs.all rshape
  | [] => by rw [rshapes]; rfl
  | x :: xs => by rw [rshapes, rshapes_all xs]; rfl
set_option maxRecDepth 100000 in
set_option maxHeartbeats 1600000 in
theorem rshape_told : ∀ (m : Nat) (t : JT), SizeOf.sizeOf t ≤ m → t.sm 1000000 → Told Tryz.prog 111 [t.av] (.c (.v (.bool (rshape t)))) := by
  intro m
  induction m with
  | zero =>
    intro t ht
    cases t
    simp at ht
  | succ m ih =>
  intro t ht hsm
  cases t with
  | mk k n s ks xs =>
  have hx : ∀ x ∈ xs, Told Tryz.prog 111 [x.av] (.c (.v (.bool (rshape x)))) := fun x hxm => ih x (by have := List.sizeOf_lt_of_mem hxm; simp at ht; omega) (smL_mem hsm.2.2.2.2 x hxm)
  obtain ⟨hsl, hkl, hks, hxl, _⟩ := hsm
  clear ih ht
  obtain ⟨V, hV⟩ : ∃ V, V = rshape (.mk k n s ks xs) := ⟨_, rfl⟩
  rw [← hV]
  rw [rshape] at hV
  have hT := rtextr_told s hsl
  simp only [JT.av]
  refine VC.told ent_111 Tryz.func111 rfl Tryz.ntmps111 (by simp) (by simp [AV.pureB, AV.pureL, cells_mk]) (by simp [AV.pureB, AV.pureL]) fun hb => ?_
  clear hb
  (iterate 18 (first | refine pass ?_ | refine VC.region (by rfl) (by rfl) ?_ | (refine AO.step fun K hK => ?_; simp only [cells_mk, List.length_map, go_sem, Int.reduceBEq, Int.reduceLE, Int.reduceLT, Int.reduceNeg, Nat.reduceAdd, Nat.reduceEqDiff, Nat.reduceLT, Nat.reduceLeDiff, Nat.reduceMul, Nat.reduceSub, reduceCtorEq, ↓reduceIte]; (first | refine gsel_skip ?_ | refine gsel_go ?_ | skip); (first | refine hK _ _ _ ?_ | refine ⟨by first | omega | exact ⟨_, rfl, rfl⟩ | exact fun _ => ⟨_, rfl, rfl⟩ | (intro h; simp only [cells_mk, List.length_map, h, true_and]; omega) | (clear hK; intro h; simp_all <;> omega), hK _ _ _ ?_⟩); clear hK K) | refine VC.draw mixP (by rfl) (by rfl) ?_ | refine ⟨okd_of (by kernel_rfl), ?_⟩ | refine BQ.other (by decide) ?_ | refine VC.seq ?_ | refine AO.nil ?_ | refine VC.block ?_))
  obtain ⟨b1, hb1⟩ : ∃ b : Bool, b = (decide (k < 1) || decide (k > 6)) := ⟨_, rfl⟩
  rw [← hb1]; replace hb1 := Lib.hid hb1
  (iterate 15 (first | refine pass ?_ | refine VC.region (by rfl) (by rfl) ?_ | (refine AO.step fun K hK => ?_; simp only [cells_mk, List.length_map, go_sem, Int.reduceBEq, Int.reduceLE, Int.reduceLT, Int.reduceNeg, Nat.reduceAdd, Nat.reduceEqDiff, Nat.reduceLT, Nat.reduceLeDiff, Nat.reduceMul, Nat.reduceSub, reduceCtorEq, ↓reduceIte]; (first | refine gsel_skip ?_ | refine gsel_go ?_ | skip); (first | refine hK _ _ _ ?_ | refine ⟨by first | omega | exact ⟨_, rfl, rfl⟩ | exact fun _ => ⟨_, rfl, rfl⟩ | (intro h; simp only [cells_mk, List.length_map, h, true_and]; omega) | (clear hK; intro h; simp_all <;> omega), hK _ _ _ ?_⟩); clear hK K) | refine VC.draw mixP (by rfl) (by rfl) ?_ | refine ⟨okd_of (by kernel_rfl), ?_⟩ | refine BQ.other (by decide) ?_ | refine VC.seq ?_ | refine AO.nil ?_ | refine VC.block ?_))
  obtain ⟨b2, hb2⟩ : ∃ b : Bool, b = (b1 || k != 2 && k != 3 && n != 0) := ⟨_, rfl⟩
  rw [← hb2]; replace hb2 := Lib.hid hb2
  (iterate 15 (first | refine pass ?_ | refine VC.region (by rfl) (by rfl) ?_ | (refine AO.step fun K hK => ?_; simp only [cells_mk, List.length_map, go_sem, Int.reduceBEq, Int.reduceLE, Int.reduceLT, Int.reduceNeg, Nat.reduceAdd, Nat.reduceEqDiff, Nat.reduceLT, Nat.reduceLeDiff, Nat.reduceMul, Nat.reduceSub, reduceCtorEq, ↓reduceIte]; (first | refine gsel_skip ?_ | refine gsel_go ?_ | skip); (first | refine hK _ _ _ ?_ | refine ⟨by first | omega | exact ⟨_, rfl, rfl⟩ | exact fun _ => ⟨_, rfl, rfl⟩ | (intro h; simp only [cells_mk, List.length_map, h, true_and]; omega) | (clear hK; intro h; simp_all <;> omega), hK _ _ _ ?_⟩); clear hK K) | refine VC.draw mixP (by rfl) (by rfl) ?_ | refine ⟨okd_of (by kernel_rfl), ?_⟩ | refine BQ.other (by decide) ?_ | refine VC.seq ?_ | refine AO.nil ?_ | refine VC.block ?_))
  obtain ⟨b3, hb3⟩ : ∃ b : Bool, b = (b2 || k == 2 && n != 0 && n != 1) := ⟨_, rfl⟩
  rw [← hb3]; replace hb3 := Lib.hid hb3
  have hE : (⟨#[]⟩ : ByteArray).toList = [] := str_toList []
  (iterate 10 (first | refine pass ?_ | refine VC.region (by rfl) (by rfl) ?_ | (refine AO.step fun K hK => ?_; simp only [cells_mk, List.length_map, str_toList, hE, go_sem, Int.reduceBEq, Int.reduceLE, Int.reduceLT, Int.reduceNeg, Nat.reduceAdd, Nat.reduceEqDiff, Nat.reduceLT, Nat.reduceLeDiff, Nat.reduceMul, Nat.reduceSub, reduceCtorEq, ↓reduceIte]; (first | refine gsel_skip ?_ | refine gsel_go ?_ | skip); (first | refine hK _ _ _ ?_ | refine ⟨by first | omega | exact ⟨_, rfl, rfl⟩ | exact fun _ => ⟨_, rfl, rfl⟩ | (intro h; simp only [cells_mk, List.length_map, str_toList, hE, h, true_and]; omega) | (clear hK; intro h; simp_all <;> omega), hK _ _ _ ?_⟩); clear hK K) | refine VC.draw mixP (by rfl) (by rfl) ?_ | refine ⟨okd_of (by kernel_rfl), ?_⟩ | refine BQ.other (by decide) ?_ | refine VC.seq ?_ | refine AO.nil ?_ | refine VC.block ?_))
  obtain ⟨b4, hb4⟩ : ∃ b : Bool, b = (b3 || k != 4 && !s == []) := ⟨_, rfl⟩
  rw [← hb4]; replace hb4 := Lib.hid hb4
  refine walkGF (@cells_mk) ?_
  refine walkDF (@cells_mk) (hT) ?_
  (iterate 3 (first | refine pass ?_ | refine VC.region (by rfl) (by rfl) ?_ | (refine AO.step fun K hK => ?_; simp only [cells_mk, List.length_map, go_sem, Int.reduceBEq, Int.reduceLE, Int.reduceLT, Int.reduceNeg, Nat.reduceAdd, Nat.reduceEqDiff, Nat.reduceLT, Nat.reduceLeDiff, Nat.reduceMul, Nat.reduceSub, reduceCtorEq, ↓reduceIte]; (first | refine gsel_skip ?_ | refine gsel_go ?_ | skip); (first | refine hK _ _ _ ?_ | refine ⟨by first | omega | exact ⟨_, rfl, rfl⟩ | exact fun _ => ⟨_, rfl, rfl⟩ | (intro h; simp only [cells_mk, List.length_map, h, true_and]; omega) | (clear hK; intro h; simp_all <;> omega), hK _ _ _ ?_⟩); clear hK K) | refine VC.draw mixP (by rfl) (by rfl) ?_ | refine ⟨okd_of (by kernel_rfl), ?_⟩ | refine BQ.other (by decide) ?_ | refine VC.seq ?_ | refine AO.nil ?_ | refine VC.block ?_))
  obtain ⟨b5, hb5⟩ : ∃ b : Bool, b = (b4 || !isRight s) := ⟨_, rfl⟩
  rw [← hb5]; replace hb5 := Lib.hid hb5
  (iterate 11 (first | refine pass ?_ | refine VC.region (by rfl) (by rfl) ?_ | (refine AO.step fun K hK => ?_; simp only [cells_mk, List.length_map, go_sem, Int.reduceBEq, Int.reduceLE, Int.reduceLT, Int.reduceNeg, Nat.reduceAdd, Nat.reduceEqDiff, Nat.reduceLT, Nat.reduceLeDiff, Nat.reduceMul, Nat.reduceSub, reduceCtorEq, ↓reduceIte]; (first | refine gsel_skip ?_ | refine gsel_go ?_ | skip); (first | refine hK _ _ _ ?_ | refine ⟨by first | omega | exact ⟨_, rfl, rfl⟩ | exact fun _ => ⟨_, rfl, rfl⟩ | (intro h; simp only [cells_mk, List.length_map, h, true_and]; omega) | (clear hK; intro h; simp_all <;> omega), hK _ _ _ ?_⟩); clear hK K) | refine VC.draw mixP (by rfl) (by rfl) ?_ | refine ⟨okd_of (by kernel_rfl), ?_⟩ | refine BQ.other (by decide) ?_ | refine VC.seq ?_ | refine AO.nil ?_ | refine VC.block ?_))
  obtain ⟨b6, hb6⟩ : ∃ b : Bool, b = (b5 || decide (k < 5) && decide ((xs.length : Int) > 0)) := ⟨_, rfl⟩
  rw [← hb6]; replace hb6 := Lib.hid hb6
  (iterate 11 (first | refine pass ?_ | refine VC.region (by rfl) (by rfl) ?_ | (refine AO.step fun K hK => ?_; simp only [cells_mk, List.length_map, go_sem, Int.reduceBEq, Int.reduceLE, Int.reduceLT, Int.reduceNeg, Nat.reduceAdd, Nat.reduceEqDiff, Nat.reduceLT, Nat.reduceLeDiff, Nat.reduceMul, Nat.reduceSub, reduceCtorEq, ↓reduceIte]; (first | refine gsel_skip ?_ | refine gsel_go ?_ | skip); (first | refine hK _ _ _ ?_ | refine ⟨by first | omega | exact ⟨_, rfl, rfl⟩ | exact fun _ => ⟨_, rfl, rfl⟩ | (intro h; simp only [cells_mk, List.length_map, h, true_and]; omega) | (clear hK; intro h; simp_all <;> omega), hK _ _ _ ?_⟩); clear hK K) | refine VC.draw mixP (by rfl) (by rfl) ?_ | refine ⟨okd_of (by kernel_rfl), ?_⟩ | refine BQ.other (by decide) ?_ | refine VC.seq ?_ | refine AO.nil ?_ | refine VC.block ?_))
  obtain ⟨b7, hb7⟩ : ∃ b : Bool, b = (b6 || k != 6 && decide ((ks.length : Int) > 0)) := ⟨_, rfl⟩
  rw [← hb7]; replace hb7 := Lib.hid hb7
  (iterate 13 (first | refine pass ?_ | refine VC.region (by rfl) (by rfl) ?_ | (refine AO.step fun K hK => ?_; simp only [cells_mk, List.length_map, go_sem, Int.reduceBEq, Int.reduceLE, Int.reduceLT, Int.reduceNeg, Nat.reduceAdd, Nat.reduceEqDiff, Nat.reduceLT, Nat.reduceLeDiff, Nat.reduceMul, Nat.reduceSub, reduceCtorEq, ↓reduceIte]; (first | refine gsel_skip ?_ | refine gsel_go ?_ | skip); (first | refine hK _ _ _ ?_ | refine ⟨by first | omega | exact ⟨_, rfl, rfl⟩ | exact fun _ => ⟨_, rfl, rfl⟩ | (intro h; simp only [cells_mk, List.length_map, h, true_and]; omega) | (clear hK; intro h; simp_all <;> omega), hK _ _ _ ?_⟩); clear hK K) | refine VC.draw mixP (by rfl) (by rfl) ?_ | refine ⟨okd_of (by kernel_rfl), ?_⟩ | refine BQ.other (by decide) ?_ | refine VC.seq ?_ | refine AO.nil ?_ | refine VC.block ?_))
  obtain ⟨b8, hb8⟩ : ∃ b : Bool, b = (b7 || k == 6 && (ks.length : Int) != (xs.length : Int)) := ⟨_, rfl⟩
  rw [← hb8]; replace hb8 := Lib.hid hb8
  have hF : rfail (.mk k n s ks xs) = b8 := by
    rw [hb8.out, hb7.out, hb6.out, hb5.out, hb4.out, hb3.out, hb2.out, hb1.out, rfail]
    have e1 : ∀ a b : Int, decide (a ≠ b) = (a != b) := fun a b => by by_cases h : a = b <;> simp [h]
    have e2 : ∀ a b : Int, decide (a = b) = (a == b) := fun a b => by by_cases h : a = b <;> simp [h]
    have e3 : s.isEmpty = (s == []) := by cases s <;> rfl
    have e4 : (!xs.isEmpty) = decide ((xs.length : Int) > 0) := by cases xs <;> simp <;> omega
    have e5 : (!ks.isEmpty) = decide ((ks.length : Int) > 0) := by cases ks <;> simp <;> omega
    have e6 : decide (ks.length ≠ xs.length) = ((ks.length : Int) != (xs.length : Int)) := by
      by_cases h : ks.length = xs.length
      · simp [h]
      · have : ¬ (ks.length : Int) = (xs.length : Int) := by omega
        simp [h, this]
    simp only [e1, e2, e3, e4, e5, e6]
  refine walkGF (@cells_mk) ?_
  refine VC.cond (by rfl) (by trivial) (fun hc => ?_) (fun hc => ?_)
  · have hf : V = false := by rw [hV, hF, hc]; simp
    subst hf
    refine walkBF (@cells_mk) ?_
    refine ⟨by first | exact .inr rfl | exact .inl rfl, ?_⟩; rw [Tryz.results111]; simp only [resOk, resV, go_sem, simprocAttr]
    exact .c _
  have hv : V = ((ks.all isRight && decide ks.Nodup) && rshapes xs) := by rw [hV, hF, hc]; simp
  clear hV hF hb1 hb2 hb3 hb4 hb5 hb6 hb7 hb8 hT
  refine walkGF (@cells_mk) ?_
  refine VC.loop (ι := {i : Nat // i ≤ ks.length ∧ (∀ y ∈ ks.take i, isRight y = true) ∧ (ks.take i).Nodup})
    (fun q => [(1, .ref 0 1 0 0), (3, .c (.v (.int .i64 (q.1 : Int))))]) (fun q => [(0, ⟨false, 36, 5, [(JT.mk k n s ks xs).cells.map .c]⟩)]) 2000 (fun q => ks.length - q.1) ⟨0, Nat.zero_le _, by simp, by simp⟩ ?_ ?_
  · simp only [cells_mk, Weak, eq_self, used_is, sc_any, sc_c, sc_pp, sc_ref, sc_row, sc_agg, sc_fn, ScL, some_imp, List.forall_mem_map, go_sem, Int.reduceBEq, Int.reduceLE, Int.reduceLT, Int.reduceNeg, Nat.reduceAdd, Nat.reduceEqDiff, Nat.reduceLT, Nat.reduceLeDiff, Nat.reduceMul, Nat.reduceSub, reduceCtorEq, ↓reduceIte]
  · rintro ⟨i, hi, hr, hd⟩
    simp only []
    refine walkGF (@cells_mk) ?_
    refine VC.cond (by rfl) (by trivial) (fun hc2 => ?_) (fun hc2 => ?_)
    · have hlt : i < ks.length := by simp at hc2; omega
      obtain ⟨y, hy⟩ : ∃ y, ks[i]? = some y := ⟨ks[i], List.getElem?_eq_getElem hlt⟩
      have hw : IntKind.i64.wrap ((i : Int) + 1) = (i : Int) + 1 := wrap64_id (by omega) (by omega)
      have hT := rtextr_told y (hks y (List.mem_of_getElem? hy))
      (repeat (first | refine pass ?_ | refine VC.region (by rfl) (by rfl) ?_ | (refine AO.step fun K hK => ?_; simp only [cells_mk, List.length_map, List.getElem?_map, hy, sPV, len_cells, take_cells, take_cellsC, go_sem, Int.reduceBEq, Int.reduceLE, Int.reduceLT, Int.reduceNeg, Nat.reduceAdd, Nat.reduceEqDiff, Nat.reduceLT, Nat.reduceLeDiff, Nat.reduceMul, Nat.reduceSub, reduceCtorEq, ↓reduceIte]; (first | refine gsel_skip ?_ | refine gsel_go ?_ | skip); (first | refine hK _ _ _ ?_ | refine ⟨by first | omega | exact ⟨_, rfl, rfl⟩ | exact fun _ => ⟨_, rfl, rfl⟩ | (intro h; simp only [cells_mk, List.length_map, List.getElem?_map, hy, sPV, len_cells, take_cells, take_cellsC, h, true_and]; omega) | (clear hK; intro h; simp_all <;> omega), hK _ _ _ ?_⟩); clear hK K) | refine VC.draw mixP (by rfl) (by rfl) ?_ | refine ⟨okd_of (by kernel_rfl), ?_⟩ | refine BQ.other (by decide) ?_ | refine VC.seq ?_ | refine AO.nil ?_ | refine VC.block ?_))
      refine walkCF (@cells_mk) (hT) ?_
      refine walkGF (@cells_mk) ?_
      refine VC.cond (by rfl) (by trivial) (fun hc3 => ?_) (fun hc3 => ?_)
      · have hf : V = false := by
          rw [hv]
          have : ks.all isRight = false := by
            rw [List.all_eq_false]
            exact ⟨y, List.mem_of_getElem? hy, by simpa using hc3⟩
          rw [this]
          rfl
        subst hf
        refine walkBF (@cells_mk) ?_
        refine ⟨by first | exact .inr rfl | exact .inl rfl, ?_⟩; rw [Tryz.results111]; simp only [resOk, resV, go_sem, simprocAttr]
        exact .c _
      refine walkGF (@cells_mk) ?_
      refine VC.loop (ι := {j : Nat // j ≤ i ∧ y ∉ ks.take j})
        (fun q => [(1, .ref 0 1 0 0), (3, .c (.v (.int .i64 (i : Int)))), (4, .c (.v (.int .i64 (q.1 : Int))))]) (fun q => [(0, ⟨false, 36, 5, [(JT.mk k n s ks xs).cells.map .c]⟩)]) 2000 (fun q => i - q.1) ⟨0, Nat.zero_le _, by simp⟩ ?_ ?_
      · simp only [cells_mk, Weak, eq_self, used_is, sc_any, sc_c, sc_pp, sc_ref, sc_row, sc_agg, sc_fn, ScL, some_imp, List.forall_mem_map, go_sem, Int.reduceBEq, Int.reduceLE, Int.reduceLT, Int.reduceNeg, Nat.reduceAdd, Nat.reduceEqDiff, Nat.reduceLT, Nat.reduceLeDiff, Nat.reduceMul, Nat.reduceSub, reduceCtorEq, ↓reduceIte]
      · rintro ⟨j, hj, hn⟩
        simp only []
        refine walkGF (@cells_mk) ?_
        refine VC.cond (by rfl) (by trivial) (fun hc4 => ?_) (fun hc4 => ?_)
        · have hjt : j < i := by simp at hc4; omega
          obtain ⟨z, hz⟩ : ∃ z, ks[j]? = some z := ⟨ks[j], List.getElem?_eq_getElem (by omega)⟩
          have hwj : IntKind.i64.wrap ((j : Int) + 1) = (j : Int) + 1 := wrap64_id (by omega) (by omega)
          (repeat (first | refine pass ?_ | refine VC.region (by rfl) (by rfl) ?_ | (refine AO.step fun K hK => ?_; simp only [cells_mk, List.length_map, List.getElem?_map, hy, hz, sPV, len_cells, take_cells, take_cellsC, str_toList, go_sem, Int.reduceBEq, Int.reduceLE, Int.reduceLT, Int.reduceNeg, Nat.reduceAdd, Nat.reduceEqDiff, Nat.reduceLT, Nat.reduceLeDiff, Nat.reduceMul, Nat.reduceSub, reduceCtorEq, ↓reduceIte]; (first | refine gsel_skip ?_ | refine gsel_go ?_ | skip); (first | refine hK _ _ _ ?_ | refine ⟨by first | omega | exact ⟨_, rfl, rfl⟩ | exact fun _ => ⟨_, rfl, rfl⟩ | (intro h; simp only [cells_mk, List.length_map, List.getElem?_map, hy, hz, sPV, len_cells, take_cells, take_cellsC, str_toList, h, true_and]; omega) | (clear hK; intro h; simp_all <;> omega), hK _ _ _ ?_⟩); clear hK K) | refine VC.draw mixP (by rfl) (by rfl) ?_ | refine ⟨okd_of (by kernel_rfl), ?_⟩ | refine BQ.other (by decide) ?_ | refine VC.seq ?_ | refine AO.nil ?_ | refine VC.block ?_))
          refine VC.cond (by rfl) (by trivial) (fun hc5 => ?_) (fun hc5 => ?_)
          · have hf : V = false := by
              rw [hv]
              have : decide ks.Nodup = false := by
                rw [decide_eq_false_iff_not]
                intro hnd
                have hzy : z = y := by simpa using hc5
                subst hzy
                exact absurd ((List.getElem?_inj (by omega) hnd).1 (hz.trans hy.symm)) (by omega)
              rw [this]
              simp
            subst hf
            refine walkBF (@cells_mk) ?_
            refine ⟨by first | exact .inr rfl | exact .inl rfl, ?_⟩; rw [Tryz.results111]; simp only [resOk, resV, go_sem, simprocAttr]
            exact .c _
          refine walkGF (hwj) ?_
          refine .next ⟨j + 1, by omega, ?_⟩ ?_ (by simp only []; omega)
          · rw [takeN hz]
            have hzy : z ≠ y := by simpa using hc5
            simp [hn, Ne.symm hzy]
          simp only [cells_mk, Weak, eq_self, used_is, sc_any, sc_c, sc_pp, sc_ref, sc_row, sc_agg, sc_fn, ScL, some_imp, List.forall_mem_map, go_sem, Int.reduceBEq, Int.reduceLE, Int.reduceLT, Int.reduceNeg, Nat.reduceAdd, Nat.reduceEqDiff, Nat.reduceLT, Nat.reduceLeDiff, Nat.reduceMul, Nat.reduceSub, reduceCtorEq, ↓reduceIte]
          try exact cI (by omega)
        · have hji : j = i := by simp at hc4; omega
          refine walkGF (hw) ?_
          refine .next ⟨i + 1, by omega, ?_, ?_⟩ ?_ (by simp only []; omega)
          · rw [takeN hy]
            intro u hu
            rcases List.mem_append.1 hu with h | h
            · exact hr u h
            · obtain rfl := List.mem_singleton.1 h
              simpa using hc3
          · rw [takeN hy, List.nodup_append]
            refine ⟨hd, by simp, ?_⟩
            intro a ha b hb
            obtain rfl := List.mem_singleton.1 hb
            rintro rfl
            exact hn (hji ▸ ha)
          simp only [cells_mk, Weak, eq_self, used_is, sc_any, sc_c, sc_pp, sc_ref, sc_row, sc_agg, sc_fn, ScL, some_imp, List.forall_mem_map, go_sem, Int.reduceBEq, Int.reduceLE, Int.reduceLT, Int.reduceNeg, Nat.reduceAdd, Nat.reduceEqDiff, Nat.reduceLT, Nat.reduceLeDiff, Nat.reduceMul, Nat.reduceSub, reduceCtorEq, ↓reduceIte]
          try exact cI (by omega)
    · have hie : i = ks.length := by simp at hc2; omega
      subst hie
      rw [List.take_length] at hr hd
      have hv : V = rshapes xs := by
        rw [hv, List.all_eq_true.2 hr]
        simp [hd]
      refine walkGF (@cells_mk) ?_
      refine VC.loop (ι := {i : Nat // i ≤ xs.length ∧ (∀ y ∈ xs.take i, rshape y = true)})
        (fun q => [(1, .ref 0 1 0 0), (5, .c (.v (.int .i64 (q.1 : Int))))]) (fun q => [(0, ⟨false, 36, 5, [(JT.mk k n s ks xs).cells.map .c]⟩)]) 2000 (fun q => xs.length - q.1) ⟨0, Nat.zero_le _, by simp⟩ ?_ ?_
      · simp only [cells_mk, Weak, eq_self, used_is, sc_any, sc_c, sc_pp, sc_ref, sc_row, sc_agg, sc_fn, ScL, some_imp, List.forall_mem_map, go_sem, Int.reduceBEq, Int.reduceLE, Int.reduceLT, Int.reduceNeg, Nat.reduceAdd, Nat.reduceEqDiff, Nat.reduceLT, Nat.reduceLeDiff, Nat.reduceMul, Nat.reduceSub, reduceCtorEq, ↓reduceIte]
      · rintro ⟨i, hi, hr⟩
        simp only []
        refine walkGF (@cells_mk) ?_
        refine VC.cond (by rfl) (by trivial) (fun hc3 => ?_) (fun hc3 => ?_)
        · have hlt : i < xs.length := by simp at hc3; omega
          obtain ⟨y, hy⟩ : ∃ y, xs[i]? = some y := ⟨xs[i], List.getElem?_eq_getElem hlt⟩
          have hw : IntKind.i64.wrap ((i : Int) + 1) = (i : Int) + 1 := wrap64_id (by omega) (by omega)
          have hyc : (xs.map JT.cells)[i]? = some y.cells := by rw [List.getElem?_map, hy]; rfl
          have hT := hx y (List.mem_of_getElem? hy)
          simp only [JT.av] at hT
          refine walkGF (And.intro @cells_mk (And.intro hyc (And.intro @len_cells (And.intro @take_cells @take_cellsC)))) ?_
          refine walkCF (And.intro @len_cells (And.intro @take_cells (And.intro @take_cellsC @pureL_c))) (hT) ?_
          refine walkGF (@cells_mk) ?_
          refine VC.cond (by rfl) (by trivial) (fun hc5 => ?_) (fun hc5 => ?_)
          · have hf : V = false := by
              rw [hv, rshapes_all, List.all_eq_false]
              exact ⟨y, List.mem_of_getElem? hy, by simpa using hc5⟩
            subst hf
            refine walkBF (@cells_mk) ?_
            refine ⟨by first | exact .inr rfl | exact .inl rfl, ?_⟩; rw [Tryz.results111]; simp only [resOk, resV, go_sem, simprocAttr]
            exact .c _
          refine walkGF (hw) ?_
          refine .next ⟨i + 1, by omega, ?_⟩ ?_ (by simp only []; omega)
          · rw [takeN hy]
            intro u hu
            rcases List.mem_append.1 hu with h | h
            · exact hr u h
            · obtain rfl := List.mem_singleton.1 h
              simpa using hc5
          simp only [cells_mk, Weak, eq_self, used_is, sc_any, sc_c, sc_pp, sc_ref, sc_row, sc_agg, sc_fn, ScL, some_imp, List.forall_mem_map, go_sem, Int.reduceBEq, Int.reduceLE, Int.reduceLT, Int.reduceNeg, Nat.reduceAdd, Nat.reduceEqDiff, Nat.reduceLT, Nat.reduceLeDiff, Nat.reduceMul, Nat.reduceSub, reduceCtorEq, ↓reduceIte]
          try exact cI (by omega)
        · have hie : i = xs.length := by simp at hc3; omega
          subst hie
          rw [List.take_length] at hr
          have hf : V = true := by
            rw [hv, rshapes_all, List.all_eq_true.2 hr]
          subst hf
          refine walkGF (@cells_mk) ?_
          refine ⟨by first | exact .inr rfl | exact .inl rfl, ?_⟩; rw [Tryz.results111]; simp only [resOk, resV, go_sem, simprocAttr]
          exact .c _

set_option maxRecDepth 100000 in
set_option maxHeartbeats 400000 in
theorem rdeep_told : ∀ (m : Nat) (t : JT), SizeOf.sizeOf t ≤ m → tdeep t ≤ 1000 → Told Tryz.prog 76 [t.av] (.c (.v (.int .i64 (tdeep t)))) := by
  intro m
  induction m with
  | zero => intro t ht; cases t; simp at ht
  | succ m ih =>
  intro t ht hd
  cases t with
  | mk k n s ks xs =>
  refine VC.told ent_76 Tryz.func76 rfl Tryz.ntmps76 (by simp) rfl rfl fun hb => ?_
  simp only [JT.av, cells_mk, List.map_cons, List.map_nil, abd_agg, abd_c, pbd_v, pbd_sl, List.mem_cons, List.not_mem_nil, or_false, forall_eq_or_imp, forall_eq, true_and, List.length_map] at hb ⊢
  have hxl := hb.1.1
  clear hb
  refine walkG ?_
  refine VC.cond (by rfl) (by trivial) (fun hc => ?_) (fun hc => ?_)
  · have hk : ¬ (k = 5 ∨ k = 6) := by
      simp at hc
      omega
    have hdd : tdeep (.mk k n s ks xs) = 0 := by simp [tdeep, hk]
    rw [hdd]
    refine walkG ?_
    refine ⟨.inr rfl, ?_⟩
    rw [Tryz.results76]
    simp only [resOk, resV, go_sem, simprocAttr]
    exact .c _
  · have hk : k = 5 ∨ k = 6 := by
      simp at hc
      omega
    have hdd : tdeep (.mk k n s ks xs) = tdeeps 1 xs := by simp [tdeep, hk]
    rw [hdd] at hd ⊢
    clear hc
    refine walkG ?_
    refine VC.loop (ι := {i : Nat // i ≤ xs.length}) (fun i => [(1, .ref 0 1 0 0), (3, .c (.v (.int .i64 (tdeeps 1 (xs.take i.1))))), (4, .c (.v (.int .i64 i.1)))])
      (fun _ => [(0, ⟨false, 36, 5, [(JT.mk k n s ks xs).cells.map .c]⟩)]) 8 (fun i => xs.length - i.1) ⟨0, Nat.zero_le _⟩ ?_ ?_
    · simp only [List.take_zero, tdeeps, cells_mk, Weak, eq_self, used_is, sc_any, sc_c, sc_pp, sc_ref, sc_row, sc_agg, sc_fn, ScL, some_imp, List.forall_mem_map, go_sem, Int.reduceBEq, Int.reduceLE, Int.reduceLT, Int.reduceNeg, Nat.reduceAdd, Nat.reduceEqDiff, Nat.reduceLT, Nat.reduceLeDiff, Nat.reduceMul, Nat.reduceSub, reduceCtorEq, ↓reduceIte]
      all_goals rfl
    rintro ⟨i, hi⟩
    refine walkGF (@cells_mk) ?_
    refine VC.cond (by rfl) (by trivial) (fun hc => ?_) (fun hc => ?_)
    · simp only [decide_eq_true_eq] at hc
      have hlt : i < xs.length := by omega
      obtain ⟨x, hx⟩ : ∃ x, xs[i]? = some x := ⟨xs[i], List.getElem?_eq_getElem hlt⟩
      have hxm := List.mem_of_getElem? hx
      have hle := (tdeeps_le xs 1).2 x hxm
      have hcall := ih x (by
        have h1 := List.sizeOf_lt_of_mem hxm
        simp at ht
        omega) (by omega)
      have hmm : tdeeps 1 (xs.take (i + 1)) = max (tdeeps 1 (xs.take i)) (1 + tdeep x) := by
        rw [← tdeeps_snoc, List.take_add_one, hx]
        rfl
      have hw : IntKind.i64.wrap ((tdeep x : Int) + 1) = (tdeep x : Int) + 1 := wrap64_id (by omega) (by omega)
      have hw2 : IntKind.i64.wrap ((i : Int) + 1) = (i : Int) + 1 := wrap64_id (by omega) (by omega)
      (repeat (first | refine pass ?_ | refine VC.region (by rfl) (by rfl) ?_ | (refine AO.step fun K hK => ?_; simp only [cells_mk, List.getElem?_map, hx, len_cells, take_cells, take_cellsC, go_sem, Int.reduceBEq, Int.reduceLE, Int.reduceLT, Int.reduceNeg, Nat.reduceAdd, Nat.reduceEqDiff, Nat.reduceLT, Nat.reduceLeDiff, Nat.reduceMul, Nat.reduceSub, reduceCtorEq, ↓reduceIte]; (first | refine gsel_skip ?_ | refine gsel_go ?_ | skip); (first | refine hK _ _ _ ?_ | refine ⟨by first | omega | exact ⟨_, rfl, rfl⟩ | exact fun _ => ⟨_, rfl, rfl⟩ | (intro h; simp only [cells_mk, List.getElem?_map, hx, len_cells, take_cells, take_cellsC, h, true_and]; omega) | (clear hK; intro h; simp_all <;> omega), hK _ _ _ ?_⟩); clear hK K) | refine VC.draw mixP (by rfl) (by rfl) ?_ | refine ⟨okd_of (by kernel_rfl), ?_⟩ | refine BQ.other (by decide) ?_ | refine VC.seq ?_ | refine AO.nil ?_ | refine VC.block ?_))
      (refine AO.step fun K hK => ?_; simp only [go_sem, Int.reduceBEq, Int.reduceLE, Int.reduceLT, Int.reduceNeg, Nat.reduceAdd, Nat.reduceEqDiff, Nat.reduceLT, Nat.reduceLeDiff, Nat.reduceMul, Nat.reduceSub, reduceCtorEq, ↓reduceIte, pureL_c]; (first | refine gsel_go ?_ | skip))
      refine .inl ⟨_, hcall, hK _ _ _ ?_⟩
      clear hK K
      refine walkGF (And.intro hw hw2) ?_
      refine VC.cond (by rfl) (by trivial) (fun hc2 => ?_) (fun hc2 => ?_)
      · simp only [decide_eq_true_eq] at hc2
        refine walkGF (hw2) ?_
        refine .next ⟨i + 1, by omega⟩ ?_ (by simp only []; omega)
        simp only [hmm, cells_mk, Weak, eq_self, used_is, sc_any, sc_c, sc_pp, sc_ref, sc_row, sc_agg, sc_fn, ScL, some_imp, List.forall_mem_map, go_sem, Int.reduceBEq, Int.reduceLE, Int.reduceLT, Int.reduceNeg, Nat.reduceAdd, Nat.reduceEqDiff, Nat.reduceLT, Nat.reduceLeDiff, Nat.reduceMul, Nat.reduceSub, reduceCtorEq, ↓reduceIte]
        exact ⟨cI (by omega), cI (by omega)⟩
      · simp only [decide_eq_false_iff_not] at hc2
        refine walkGF (hw2) ?_
        refine .next ⟨i + 1, by omega⟩ ?_ (by simp only []; omega)
        simp only [hmm, cells_mk, Weak, eq_self, used_is, sc_any, sc_c, sc_pp, sc_ref, sc_row, sc_agg, sc_fn, ScL, some_imp, List.forall_mem_map, go_sem, Int.reduceBEq, Int.reduceLE, Int.reduceLT, Int.reduceNeg, Nat.reduceAdd, Nat.reduceEqDiff, Nat.reduceLT, Nat.reduceLeDiff, Nat.reduceMul, Nat.reduceSub, reduceCtorEq, ↓reduceIte]
        exact ⟨cI (by omega), cI (by omega)⟩
    · simp only [decide_eq_false_iff_not] at hc
      obtain rfl : i = xs.length := by omega
      refine walkG ?_
      refine ⟨.inr rfl, ?_⟩
      rw [Tryz.results76]
      simp only [resOk, resV, go_sem, simprocAttr]
      rw [List.take_length]
      exact .c _

set_option maxRecDepth 100000 in
set_option maxHeartbeats 800000 in
theorem rright_told (t : JT) (h1 : t.sm 1000000) (h2 : tdeep t ≤ 1000) : Told Tryz.prog 68 [t.av] (.c (.v (.bool (jR t)))) := by
  have hS := rshape_told _ t (Nat.le_refl _) h1
  have hD := rdeep_told _ t (Nat.le_refl _) h2
  have hV : jR t = (decide ((tdeep t : Int) ≤ 32) && rshape t) := by
    rw [jR_shape]
    congr 1
    by_cases h : tdeep t ≤ 32
    · simp [h]; omega
    · simp [h]; omega
  obtain ⟨V, hVV⟩ : ∃ V, V = jR t := ⟨_, rfl⟩
  rw [← hVV] at hV ⊢
  refine VC.told ent_68 Tryz.func68 rfl Tryz.ntmps68 (by simp) (by simp [AV.pureB, AV.pureL, JT.av, pureL_c]) rfl fun hb => ?_
  clear hb
  refine walkGF (And.intro @JT.av_eq (And.intro @len_cells (And.intro @take_cells @take_cellsC))) ?_
  refine walkCF (And.intro @JT.av_eq (And.intro @len_cells (And.intro @take_cells (And.intro @take_cellsC @pureL_c)))) (hD) ?_
  refine walkGF (And.intro @JT.av_eq (And.intro @len_cells (And.intro @take_cells @take_cellsC))) ?_
  refine walkDF (And.intro @JT.av_eq (And.intro @len_cells (And.intro @take_cells (And.intro @take_cellsC @pureL_c)))) (hS) ?_
  refine walkG ?_
  refine ⟨by first | exact .inr rfl | exact .inl rfl, ?_⟩; rw [Tryz.results68]; simp only [resOk, resV, go_sem, simprocAttr]
  rw [hV]
  exact .c _

def partN (n : NT) : NT := ⟨n.kind, if namedK n.kind = true then n.name else [], if namedK n.kind = true then n.aliases else [], if n.kind = 9 then n.fields else [], if n.kind = 10 then n.symbols else [], if n.kind = 10 then n.has else false,
  if n.kind = 10 then n.dflt else [], if n.kind = 14 then n.size else 0, if n.kind = 11 ∨ n.kind = 12 then n.items else 0, if n.kind = 13 then n.branches else []⟩
theorem bareM_part (n : NT) : bareM n = ceq n (partN n) := by
  obtain ⟨k, a, b, c, d, e, f, g, h, i⟩ := n
  rw [Bool.eq_iff_iff, ceq_iff, partN, NT.mk.injEq, bareM]
  simp only [Bool.and_eq_true, Bool.or_eq_true, List.isEmpty_iff, beq_iff_eq, Bool.not_eq_true', true_and]
  constructor
  · rintro ⟨h1, h2, h3, h4, h5, h6⟩
    refine ⟨?_, ?_, ?_, ?_, ?_, ?_, ?_, ?_, ?_⟩
    · split
      · rfl
      · rename_i hn
        rcases h1 with h1 | h1
        · exact absurd h1 hn
        · exact h1.1
    · split
      · rfl
      · rename_i hn
        rcases h1 with h1 | h1
        · exact absurd h1 hn
        · exact h1.2
    · split
      · rfl
      · rename_i hn
        rcases h2 with h2 | h2
        · exact absurd h2 hn
        · exact h2
    · split
      · rfl
      · rename_i hn
        rcases h3 with h3 | h3
        · exact absurd h3 hn
        · exact h3.1
    · split
      · rfl
      · rename_i hn
        rcases h3 with h3 | h3
        · exact absurd h3 hn
        · exact h3.2.1
    · split
      · rfl
      · rename_i hn
        rcases h3 with h3 | h3
        · exact absurd h3 hn
        · exact h3.2.2
    · split
      · rfl
      · rename_i hn
        rcases h4 with h4 | h4
        · exact absurd h4 hn
        · exact h4
    · split
      · rfl
      · rename_i hn
        rcases h5 with (h5 | h5) | h5
        · exact absurd (.inl h5) hn
        · exact absurd (.inr h5) hn
        · exact h5
    · split
      · rfl
      · rename_i hn
        rcases h6 with h6 | h6
        · exact absurd h6 hn
        · exact h6
  · rintro ⟨h1, h2, h3, h4, h5, h6, h7, h8, h9⟩
    refine ⟨?_, ?_, ?_, ?_, ?_, ?_⟩
    · by_cases hn : namedK k = true
      · exact .inl hn
      · rw [if_neg hn] at h1 h2
        exact .inr ⟨h1, h2⟩
    · by_cases hn : k = 9
      · exact .inl hn
      · rw [if_neg hn] at h3
        exact .inr h3
    · by_cases hn : k = 10
      · exact .inl hn
      · rw [if_neg hn] at h4 h5 h6
        exact .inr ⟨h4, h5, h6⟩
    · by_cases hn : k = 14
      · exact .inl hn
      · rw [if_neg hn] at h7
        exact .inr h7
    · by_cases hn : k = 11 ∨ k = 12
      · rcases hn with hn | hn
        · exact .inl (.inl hn)
        · exact .inl (.inr hn)
      · rw [if_neg hn] at h8
        exact .inr h8
    · by_cases hn : k = 13
      · exact .inl hn
      · rw [if_neg hn] at h9
        exact .inr h9
theorem branchesM_snoc {ns : List NT} : ∀ (l d : List Int) (k : Int), branchesM ns d (l ++ [k]) = (branchesM ns d l && branchM ns (d ++ l) k)
  | [], d, k => by simp [branchesM]
  | x :: l, d, k => by
    rw [List.cons_append, branchesM, branchesM, branchesM_snoc l (d ++ [x]) k, Bool.and_assoc, List.append_assoc]
    rfl
theorem rsame10_told (a b : NT) : Told Tryz.prog 187 [a.av, b.av] (.c (.v (.bool (ceq a b)))) := by
  have hO := rone_told a b
  obtain ⟨V, hV⟩ : ∃ V, V = ceq a b := ⟨_, rfl⟩
  rw [← hV] at hO ⊢
  simp only [NT.av_eq] at hO
  rw [NT.av_eq, NT.av_eq]
  refine VC.told ent_187 Tryz.func187 rfl Tryz.ntmps187 (by simp) (by first | rfl | simp [AV.pureB, AV.pureL, pureL_c, pures]) (by first | rfl | simp [AV.pureB, AV.pureL, pureL_c, pures]) fun hb => ?_
  clear hb
  refine walkGF (And.intro @len_ncells (And.intro @take_ncells @take_ncellsC)) ?_
  refine walkCF (@pureL_c) (hO) ?_
  refine walkG ?_
  refine ⟨by first | exact .inr rfl | exact .inl rfl, ?_⟩; rw [Tryz.results187]; simp only [resOk, resV, go_sem, simprocAttr]
  exact .c _
def okN (n : NT) : Bool := !namedK n.kind || (fullM n.name && (kindM n.name == 0 && allM fullM n.aliases))
set_option maxRecDepth 100000 in
set_option maxHeartbeats 3200000 in
theorem rnode_told (s : ST) (n : NT) (hsm : n.sm 1000000) (hbr : n.kind = 13 → ∀ k ∈ n.branches, 0 ≤ k ∧ k < (s.nodes.length : Int)) (hdp : ∀ f ∈ n.fields, tdeep f.dflt ≤ 1000) : Told Tryz.prog 108 [s.av, n.av] (.c (.v (.bool (nodeM s.nodes n)))) := by
  obtain ⟨V, hV⟩ : ∃ V, V = nodeM s.nodes n := ⟨_, rfl⟩
  rw [← hV]
  unfold nodeM at hV
  obtain ⟨hn1, hn2, ⟨ha1, ha2⟩, ⟨hs1, hs2⟩, hb1, hf1, hf2⟩ := hsm
  have hN := rnamed10_told n.kind
  have hF := rfull_told n.name (by omega)
  have hKd := rkind_told n.name
  have hSame := rsame10_told n (partN n)
  rw [← bareM_part] at hSame
  have hpart : partN n = partN n := rfl
  obtain ⟨bB, hBB⟩ : ∃ b, b = bareM n := ⟨_, rfl⟩
  rw [← hBB] at hV hSame
  obtain ⟨X, hX⟩ : ∃ X, X = okN n := ⟨_, rfl⟩
  have hX0 := hX
  unfold okN at hX0
  rw [← hX0] at hV
  obtain ⟨bF, hFF⟩ : ∃ b, b = fullM n.name := ⟨_, rfl⟩
  obtain ⟨kK, hKK⟩ : ∃ b, b = kindM n.name := ⟨_, rfl⟩
  rw [← hFF] at hX0 hF
  rw [← hKK] at hX0 hKd
  rw [NT.av_eq, ncells_mk, ST.av_eq, scells_mk]
  simp only [NT.av_eq] at hSame
  refine VC.told ent_108 Tryz.func108 rfl Tryz.ntmps108 (by simp) (by first | rfl | simp [AV.pureB, AV.pureL, pureL_c, pures]) (by first | rfl | simp [AV.pureB, AV.pureL, pureL_c, pures]) fun hb => ?_
  clear hb
  (refine VC.seq ?_; (first | refine VC.region (by rfl) (by rfl) ?_ | refine VC.draw mixP (by rfl) (by rfl) ?_); (repeat (refine AO.step fun K hK => ?_; simp only [go_sem, Int.reduceBEq, Int.reduceLE, Int.reduceLT, Int.reduceNeg, Nat.reduceAdd, Nat.reduceEqDiff, Nat.reduceLT, Nat.reduceLeDiff, Nat.reduceMul, Nat.reduceSub, reduceCtorEq, ↓reduceIte]; (first | refine gsel_skip ?_ | refine gsel_go ?_ | skip); (first | refine hK _ _ _ ?_ | refine ⟨by first | omega | exact ⟨_, rfl, rfl⟩ | exact fun _ => ⟨_, rfl, rfl⟩ | (intro h; simp only [h, true_and]; omega) | (clear hK; intro h; simp_all <;> omega), hK _ _ _ ?_⟩); clear hK K)); refine AO.nil ?_; first | refine SQ.normal ?_ | refine ⟨okd_of (by kernel_rfl), SQ.normal ?_⟩)
  (refine VC.seq ?_; (first | refine VC.region (by rfl) (by rfl) ?_ | refine VC.draw mixP (by rfl) (by rfl) ?_); (repeat (refine AO.step fun K hK => ?_; simp only [go_sem, Int.reduceBEq, Int.reduceLE, Int.reduceLT, Int.reduceNeg, Nat.reduceAdd, Nat.reduceEqDiff, Nat.reduceLT, Nat.reduceLeDiff, Nat.reduceMul, Nat.reduceSub, reduceCtorEq, ↓reduceIte]; (first | refine gsel_skip ?_ | refine gsel_go ?_ | skip); (first | refine hK _ _ _ ?_ | refine ⟨by first | omega | exact ⟨_, rfl, rfl⟩ | exact fun _ => ⟨_, rfl, rfl⟩ | (intro h; simp only [h, true_and]; omega) | (clear hK; intro h; simp_all <;> omega), hK _ _ _ ?_⟩); clear hK K)); refine AO.nil ?_; first | refine SQ.normal ?_ | refine ⟨okd_of (by kernel_rfl), SQ.normal ?_⟩)
  refine VC.frz [] [(2, .ref 0 1 0 0), (3, .ref 8 1 0 0), (5, .ref 48 1 0 0)] [(0, ⟨false, 24, 2, [s.cells.map .c]⟩), (8, ⟨false, 33, 10, [n.cells.map .c]⟩), (48, ⟨false, 33, 10, [(⟨n.kind, [], [], [], [], false, [], 0, 0, []⟩ : NT).cells.map .c]⟩)] 400 ?_ ?_
  · simp only [ncells_mk, scells_mk, WeakF, used_is, sc_any, sc_c, sc_pp, sc_ref, sc_row, sc_agg, sc_fn, ScL, some_imp, List.forall_mem_map, go_sem, Int.reduceBEq, Int.reduceLE, Int.reduceLT, Int.reduceNeg, Nat.reduceAdd, Nat.reduceEqDiff, Nat.reduceLT, Nat.reduceLeDiff, Nat.reduceMul, Nat.reduceSub, reduceCtorEq, ↓reduceIte]
    exact ⟨⟨.same _, .same _, .same _⟩, .same _, .same _, .one (.cons (.same _) (.cons (.same _) (.cons (.nil 1) (.cons (.nil 9) (.cons (.nil 1) (.cons (.same _) (.cons (.same _) (.cons (.same _) (.cons (.same _) (.cons (.nil 1) .nil)))))))))) (by simp [AV.cellish])⟩
  refine walkGF (And.intro @ncells_mk @scells_mk) ?_
  refine walkC (hN) ?_
  refine walkG ?_
  refine VC.meetF (ι := {u : Unit // X = true}) (fun _ => [(2, .ref 0 1 0 0), (3, .ref 8 1 0 0), (5, .ref 48 1 0 0)]) (fun _ => [(0, ⟨false, 24, 2, [s.cells.map .c]⟩), (8, ⟨false, 33, 10, [n.cells.map .c]⟩), (48, ⟨false, 33, 10, [(⟨n.kind, (partN n).name, (partN n).aliases, [], [], false, [], 0, 0, []⟩ : NT).cells.map .c]⟩)]) 4000 ?_ ?_
  · refine VC.cond (by rfl) (by trivial) (fun hc => ?_) (fun hc => ?_)
    · have hpn : (partN n).name = n.name := by simp [partN, hc]
      have hpa : (partN n).aliases = n.aliases := by simp [partN, hc]
      rw [hc, Bool.not_true, Bool.false_or] at hX0
      refine walkGF (And.intro @ncells_mk @scells_mk) ?_
      refine walkC (hF) ?_
      refine walkGF (@ncells_mk) ?_
      refine walkD (hKd) ?_
      refine walkGF (@ncells_mk) ?_
      refine VC.cond (by rfl) (by trivial) (fun hc2 => ?_) (fun hc2 => ?_)
      · have hf : V = false := by
          have : X = false := by
            rw [hX0, allM]
            cases bF with
            | false => rfl
            | true =>
              cases hk0 : kK == 0 with
              | false => simp
              | true =>
                have hk1 : kK = 0 := by simpa using hk0
                have hl : ¬ n.aliases.length ≤ 40 := by
                  simp [hk1] at hc2
                  omega
                simp [hl]
          rw [hV, this]
          simp
        subst hf
        refine walkG ?_
        refine ⟨by first | exact .inr rfl | exact .inl rfl, ?_⟩; rw [Tryz.results108]; simp only [resOk, resV, go_sem, simprocAttr]
        exact .c _
      · obtain ⟨hbf, hk0, hl40⟩ : bF = true ∧ kK = 0 ∧ n.aliases.length ≤ 40 := by
          cases bF <;> simp at hc2 ⊢
          omega
        have hXa : X = n.aliases.all fullM := by
          rw [hX0, allM, hbf, hk0]
          simp [hl40]
        refine walkG ?_
        refine VC.loop (ι := {i : Nat // i ≤ n.aliases.length ∧ ∀ (j : Nat) (x : List UInt8), j < i → n.aliases[j]? = some x → fullM x = true}) (fun q => [(2, .ref 0 1 0 0), (3, .ref 8 1 0 0), (5, .ref 48 1 0 0), (6, .c (.v (.int .i64 (q.1 : Int))))])
          (fun _ => [(0, ⟨false, 24, 2, [s.cells.map .c]⟩), (8, ⟨false, 33, 10, [n.cells.map .c]⟩), (48, ⟨false, 33, 10, [(⟨n.kind, n.name, n.aliases, [], [], false, [], 0, 0, []⟩ : NT).cells.map .c]⟩)]) 2000 (fun q => n.aliases.length - q.1) ⟨0, Nat.zero_le _, fun j x h => by omega⟩ ?_ ?_
        · simp only [ncells_mk, scells_mk, Weak, eq_self, used_is, sc_any, sc_c, sc_pp, sc_ref, sc_row, sc_agg, sc_fn, ScL, some_imp, List.forall_mem_map, go_sem, Int.reduceBEq, Int.reduceLE, Int.reduceLT, Int.reduceNeg, Nat.reduceAdd, Nat.reduceEqDiff, Nat.reduceLT, Nat.reduceLeDiff, Nat.reduceMul, Nat.reduceSub, reduceCtorEq, ↓reduceIte]
          done
        rintro ⟨i, hi, ht⟩
        simp only []
        refine walkGF (@ncells_mk) ?_
        refine VC.cond (by rfl) (by trivial) (fun hc3 => ?_) (fun hc3 => ?_)
        · have hlt : i < n.aliases.length := by simp at hc3; omega
          obtain ⟨x, hx⟩ : ∃ x, n.aliases[i]? = some x := ⟨n.aliases[i], List.getElem?_eq_getElem hlt⟩
          have hw : IntKind.i64.wrap ((i : Int) + 1) = (i : Int) + 1 := wrap64_id (by omega) (by omega)
          have hxp : (n.aliases.map sPV)[i]? = some (sPV x) := by rw [List.getElem?_map, hx]; rfl
          have hFx := rfull_told x (by have := ha2 x (List.mem_of_getElem? hx); omega)
          refine walkGF (And.intro @ncells_mk (And.intro hxp @sPV_eq)) ?_
          refine walkC (hFx) ?_
          refine walkG ?_
          refine VC.cond (by rfl) (by trivial) (fun hc4 => ?_) (fun hc4 => ?_)
          · have hf : V = false := by
              have : X = false := by
                rw [hXa, List.all_eq_false]
                exact ⟨x, List.mem_of_getElem? hx, by simpa using hc4⟩
              rw [hV, this]
              simp
            subst hf
            refine walkG ?_
            refine ⟨by first | exact .inr rfl | exact .inl rfl, ?_⟩; rw [Tryz.results108]; simp only [resOk, resV, go_sem, simprocAttr]
            exact .c _
          · have hfx : fullM x = true := by simpa using hc4
            refine walkGF (hw) ?_
            refine .next ⟨i + 1, by omega, ?_⟩ ?_ (by simp only []; omega)
            · intro j y hj hy
              by_cases hji : j < i
              · exact ht j y hji hy
              · obtain rfl : j = i := by omega
                rw [hx] at hy
                obtain rfl := Option.some.inj hy
                exact hfx
            simp only [ncells_mk, scells_mk, Weak, eq_self, used_is, sc_any, sc_c, sc_pp, sc_ref, sc_row, sc_agg, sc_fn, ScL, some_imp, List.forall_mem_map, go_sem, Int.reduceBEq, Int.reduceLE, Int.reduceLT, Int.reduceNeg, Nat.reduceAdd, Nat.reduceEqDiff, Nat.reduceLT, Nat.reduceLeDiff, Nat.reduceMul, Nat.reduceSub, reduceCtorEq, ↓reduceIte]
            exact cI (by omega)
        · have hie : i = n.aliases.length := by simp at hc3; omega
          have hXt : X = true := by
            rw [hXa, List.all_eq_true]
            intro y hy
            obtain ⟨j, hj⟩ := List.getElem?_of_mem hy
            exact ht j y (by have := (List.getElem?_eq_some_iff.1 hj).1; omega) hj
          refine walkG ?_
          refine .normal ⟨(), hXt⟩ ?_
          simp only [ncells_mk, scells_mk, hpn, hpa, Weak, eq_self, used_is, sc_any, sc_c, sc_pp, sc_ref, sc_row, sc_agg, sc_fn, ScL, some_imp, List.forall_mem_map, go_sem, Int.reduceBEq, Int.reduceLE, Int.reduceLT, Int.reduceNeg, Nat.reduceAdd, Nat.reduceEqDiff, Nat.reduceLT, Nat.reduceLeDiff, Nat.reduceMul, Nat.reduceSub, reduceCtorEq, ↓reduceIte]
          done
    · have hpn : (partN n).name = [] := by simp [partN, hc]
      have hpa : (partN n).aliases = [] := by simp [partN, hc]
      refine walkG ?_
      refine .normal ⟨(), by rw [hX0, hc]; rfl⟩ ?_
      simp only [ncells_mk, scells_mk, hpn, hpa, Weak, eq_self, used_is, sc_any, sc_c, sc_pp, sc_ref, sc_row, sc_agg, sc_fn, ScL, some_imp, List.forall_mem_map, go_sem, Int.reduceBEq, Int.reduceLE, Int.reduceLT, Int.reduceNeg, Nat.reduceAdd, Nat.reduceEqDiff, Nat.reduceLT, Nat.reduceLeDiff, Nat.reduceMul, Nat.reduceSub, reduceCtorEq, ↓reduceIte]
      done
  rintro ⟨_, hXt⟩
  rw [hXt, Bool.true_and] at hV
  clear hX hX0 hXt hN hF hKd hFF hKK ha2
  (refine VC.seq ?_; (first | refine VC.region (by rfl) (by rfl) ?_ | refine VC.draw mixP (by rfl) (by rfl) ?_); (repeat (refine AO.step fun K hK => ?_; simp only [ncells_mk, go_sem, Int.reduceBEq, Int.reduceLE, Int.reduceLT, Int.reduceNeg, Nat.reduceAdd, Nat.reduceEqDiff, Nat.reduceLT, Nat.reduceLeDiff, Nat.reduceMul, Nat.reduceSub, reduceCtorEq, ↓reduceIte]; (first | refine gsel_skip ?_ | refine gsel_go ?_ | skip); (first | refine hK _ _ _ ?_ | refine ⟨by first | omega | exact ⟨_, rfl, rfl⟩ | exact fun _ => ⟨_, rfl, rfl⟩ | (intro h; simp only [ncells_mk, h, true_and]; omega) | (clear hK; intro h; simp_all <;> omega), hK _ _ _ ?_⟩); clear hK K)); refine AO.nil ?_; first | refine SQ.normal ?_ | refine ⟨okd_of (by kernel_rfl), SQ.normal ?_⟩)
  refine VC.seq ?_
  refine VC.meetF (ι := {ok : Bool // V = (ok && bB)}) (fun q => [(2, .ref 0 1 0 0), (3, .ref 8 1 0 0), (5, .ref 48 1 0 0), (7, .c (.v (.bool q.1)))]) (fun _ => [(0, ⟨false, 24, 2, [s.cells.map .c]⟩), (8, ⟨false, 33, 10, [n.cells.map .c]⟩), (48, ⟨false, 33, 10, [(partN n).cells.map .c]⟩)]) 8000 ?_ ?_
  rotate_left
  · rintro ⟨ok, hok⟩
    simp only []
    simp only [ncells_mk, List.map_cons, List.map_nil] at hSame
    refine walkGF (And.intro @ncells_mk @scells_mk) ?_
    refine walkD (hSame) ?_
    refine walkG ?_
    refine ⟨by first | exact .inr rfl | exact .inl rfl, ?_⟩; rw [Tryz.results108]; simp only [resOk, resV, go_sem, simprocAttr]
    rw [hok]
    exact .c _
  by_cases h9 : n.kind = 9
  · rw [h9] at hV
    have e9 : (n.kind == 9) = true := by simpa using h9
    have o1 : decide (n.kind ≥ 1) = true := by rw [h9]; rfl
    have o2 : decide (n.kind ≤ 14) = true := by rw [h9]; rfl
    have hV9 : V = (fieldsM n.fields && bB) := by rw [hV]; simp [Bool.and_comm]
    clear hV
    have pk : (partN n).kind = n.kind := rfl
    have pf : (partN n).fields = n.fields := by simp [partN, h9]
    have ps : (partN n).symbols = [] := by simp [partN, h9]
    have ph : (partN n).has = false := by simp [partN, h9]
    have pd : (partN n).dflt = [] := by simp [partN, h9]
    have pz : (partN n).size = 0 := by simp [partN, h9]
    have pi : (partN n).items = 0 := by simp [partN, h9]
    have pb : (partN n).branches = [] := by simp [partN, h9]
    refine walkBF (And.intro @ncells_mk e9) ?_
    refine VC.nil 8 9 1 (by rfl) (by trivial) (by rfl) ?_
    refine VC.loop (ι := {i : Nat // i ≤ n.fields.length}) (fun q => [(2, .ref 0 1 0 0), (3, .ref 8 1 0 0), (5, .ref 48 1 0 0), (7, .c (.v (.bool ((n.fields.take q.1).all fieldM)))), (8, .row 4152 q.1), (9, .c (.v (.int .i64 (q.1 : Int))))])
      (fun q => [(0, ⟨false, 24, 2, [s.cells.map .c]⟩), (8, ⟨false, 33, 10, [n.cells.map .c]⟩), (48, ⟨false, 33, 10, [(partN n).cells.map .c]⟩), (4152, ⟨true, 9, 1, rA sPV ((n.fields.map (·.name)).take q.1)⟩)]) 5000 (fun q => n.fields.length - q.1) ⟨0, Nat.zero_le _⟩ ?_ ?_
    · simp only [ncells_mk, scells_mk, rA_len, rA_sc, rA_nil, o1, o2, pk, pf, ps, ph, pd, pz, pi, pb, Weak, eq_self, used_is, sc_any, sc_c, sc_pp, sc_ref, sc_row, sc_agg, sc_fn, ScL, some_imp, List.forall_mem_map, go_sem, Int.reduceBEq, Int.reduceLE, Int.reduceLT, Int.reduceNeg, Nat.reduceAdd, Nat.reduceEqDiff, Nat.reduceLT, Nat.reduceLeDiff, Nat.reduceMul, Nat.reduceSub, reduceCtorEq, ↓reduceIte]
      done
    rintro ⟨i, hi⟩
    simp only []
    refine walkGF (And.intro @ncells_mk @scells_mk) ?_
    refine VC.cond (by rfl) (by trivial) (fun hc => ?_) (fun hc => ?_)
    · have hlt : i < n.fields.length := by simp at hc; omega
      obtain ⟨f, hx⟩ : ∃ f, n.fields[i]? = some f := ⟨n.fields[i], List.getElem?_eq_getElem hlt⟩
      have hw : IntKind.i64.wrap ((i : Int) + 1) = (i : Int) + 1 := wrap64_id (by omega) (by omega)
      have hxp : (n.fields.map FT.cells)[i]? = some f.cells := by rw [List.getElem?_map, hx]; rfl
      have hln : (rA sPV ((n.fields.map (·.name)).take i)).length = i := by rw [rA_len]; simp; omega
      have hr : rA sPV ((n.fields.map (·.name)).take i) ++ [[.c (.v (.string (str f.name)))]] = rA sPV ((n.fields.map (·.name)).take (i + 1)) := by
        rw [List.take_add_one, List.getElem?_map, hx]
        exact rA_one sPV _ f.name
      have hl2 : (rA sPV ((n.fields.map (·.name)).take (i + 1))).length = i + 1 := by rw [rA_len]; simp; omega
      obtain ⟨g1, g2, g3, g4⟩ := hf2 f (List.mem_of_getElem? hx)
      have hA := rsimples_told f.aliases (by omega) fun x hx => by have := g3 x hx; omega
      have hR := rright_told f.dflt (sm_le (by omega) _ g4) (hdp f (List.mem_of_getElem? hx))
      have hS := rsame_told _ f.dflt jzero (Nat.le_refl _)
      simp only [JT.av] at hR
      have hM : fieldM f = (allM simpleM f.aliases && ((f.has && jR f.dflt) || (!f.has && jeq f.dflt jzero))) := by
        unfold fieldM
        cases f.has <;> simp
      have hnx : (n.fields.take (i + 1)).all fieldM = ((n.fields.take i).all fieldM && fieldM f) := by
        rw [List.take_add_one, hx, List.all_append]
        simp
      obtain ⟨b0, hb0⟩ : ∃ b, b = (n.fields.take i).all fieldM := ⟨_, rfl⟩
      obtain ⟨b1, hb1⟩ : ∃ b, b = allM simpleM f.aliases := ⟨_, rfl⟩
      obtain ⟨b2, hb2⟩ : ∃ b, b = jR f.dflt := ⟨_, rfl⟩
      obtain ⟨b3, hb3⟩ : ∃ b, b = jeq f.dflt jzero := ⟨_, rfl⟩
      rw [hM, ← hb0, ← hb1, ← hb2, ← hb3] at hnx
      rw [← hb0]
      rw [← hb1] at hA
      rw [← hb2] at hR
      rw [← hb3] at hS
      clear hM hb0 hb1 hb2 hb3
      cases hfh : f.has with
      | true =>
        rw [hfh] at hnx
        replace hnx := Lib.hid hnx
        refine walkGF (And.intro @ncells_mk (And.intro @scells_mk (And.intro hxp (And.intro @fcells_mk (And.intro @len_cells (And.intro @take_cells (And.intro @take_cellsC (And.intro hln (And.intro hr hfh))))))))) ?_
        refine walkD (hA) ?_
        refine walkGF (And.intro @fcells_mk (And.intro @len_cells (And.intro @take_cells (And.intro @take_cellsC hfh)))) ?_
        refine walkDF (@pureL_c) (hR) ?_
        refine walkGF (And.intro hfh hw) ?_
        refine .next ⟨i + 1, by omega⟩ ?_ (by simp only []; omega)
        simp only [ncells_mk, scells_mk, hl2, rA_sc, hnx.out, Bool.and_assoc, Weak, eq_self, used_is, sc_any, sc_c, sc_pp, sc_ref, sc_row, sc_agg, sc_fn, ScL, some_imp, List.forall_mem_map, go_sem, Int.reduceBEq, Int.reduceLE, Int.reduceLT, Int.reduceNeg, Nat.reduceAdd, Nat.reduceEqDiff, Nat.reduceLT, Nat.reduceLeDiff, Nat.reduceMul, Nat.reduceSub, reduceCtorEq, ↓reduceIte]
        exact ⟨cI (by omega), Nat.le_refl _⟩
      | false =>
        rw [hfh] at hnx
        replace hnx := Lib.hid hnx
        refine walkGF (And.intro @ncells_mk (And.intro @scells_mk (And.intro hxp (And.intro @fcells_mk (And.intro @len_cells (And.intro @take_cells (And.intro @take_cellsC (And.intro hln (And.intro hr hfh))))))))) ?_
        refine walkD (hA) ?_
        refine walkGF (And.intro @fcells_mk (And.intro @len_cells (And.intro @take_cells (And.intro @take_cellsC hfh)))) ?_
        (refine AO.step fun K hK => ?_; simp only [go_sem, Int.reduceBEq, Int.reduceLE, Int.reduceLT, Int.reduceNeg, Nat.reduceAdd, Nat.reduceEqDiff, Nat.reduceLT, Nat.reduceLeDiff, Nat.reduceMul, Nat.reduceSub, reduceCtorEq, ↓reduceIte]; (first | refine gsel_go ?_ | skip))
        refine .inr (.inl ⟨.c (.v (.bool b3)), [f.dflt.av, jzero.av], [], fun hg => ⟨hg, by simp [AV.pureL, AV.pureB, JT.av, pureL_c], rfl, fun k x z h5 h6 => ?_, rfl, hS⟩, hK _ _ _ ?_⟩)
        · match k with
          | 0 => obtain rfl := Option.some.inj h5; obtain rfl := Option.some.inj h6; exact .same _
          | 1 => obtain rfl := Option.some.inj h5; obtain rfl := Option.some.inj h6; exact view_jzero _
          | k + 2 => simp at h5
        clear hK K
        refine walkGF (And.intro hfh hw) ?_
        refine .next ⟨i + 1, by omega⟩ ?_ (by simp only []; omega)
        simp only [ncells_mk, scells_mk, hl2, rA_sc, hnx.out, Bool.and_assoc, Weak, eq_self, used_is, sc_any, sc_c, sc_pp, sc_ref, sc_row, sc_agg, sc_fn, ScL, some_imp, List.forall_mem_map, go_sem, Int.reduceBEq, Int.reduceLE, Int.reduceLT, Int.reduceNeg, Nat.reduceAdd, Nat.reduceEqDiff, Nat.reduceLT, Nat.reduceLeDiff, Nat.reduceMul, Nat.reduceSub, reduceCtorEq, ↓reduceIte]
        exact ⟨cI (by omega), Nat.le_refl _⟩
    · have hie : i = n.fields.length := by simp at hc; omega
      have htk : (n.fields.map (·.name)).take i = n.fields.map (·.name) := List.take_of_length_le (by simp; omega)
      have htf : n.fields.take i = n.fields := List.take_of_length_le (by omega)
      rw [htk, htf]
      have hrl : (rA sPV (n.fields.map (·.name))).length = i := by rw [rA_len]; simp; omega
      have hA := rsimples_told (n.fields.map (·.name)) (by simp; omega) fun x hx => by
        obtain ⟨f, hf, rfl⟩ := List.mem_map.1 hx
        have := (hf2 f hf).1
        omega
      have hO := ronce_told (n.fields.map (·.name)) (by simp; omega)
      have hFi : fieldsM n.fields = ((n.fields.all fieldM && allM simpleM (n.fields.map (·.name))) && decide (n.fields.map (·.name)).Nodup) := by
        unfold fieldsM diffM allM
        simp [Bool.and_assoc]
      obtain ⟨b0, hb0⟩ : ∃ b, b = n.fields.all fieldM := ⟨_, rfl⟩
      obtain ⟨b1, hb1⟩ : ∃ b, b = allM simpleM (n.fields.map (·.name)) := ⟨_, rfl⟩
      obtain ⟨b2, hb2⟩ : ∃ b, b = decide (n.fields.map (·.name)).Nodup := ⟨_, rfl⟩
      rw [← hb0, ← hb1, ← hb2] at hFi
      rw [← hb0]
      rw [← hb1] at hA
      rw [← hb2] at hO
      clear hb0 hb1 hb2
      replace hFi := Lib.hid hFi
      refine walkGF (And.intro @ncells_mk (And.intro @scells_mk hrl)) ?_
      (refine AO.step fun K hK => ?_; simp only [go_sem, Int.reduceBEq, Int.reduceLE, Int.reduceLT, Int.reduceNeg, Nat.reduceAdd, Nat.reduceEqDiff, Nat.reduceLT, Nat.reduceLeDiff, Nat.reduceMul, Nat.reduceSub, reduceCtorEq, ↓reduceIte, hrl]; (first | refine gsel_go ?_ | skip))
      refine .inr (.inl ⟨.c (.v (.bool b1)), [.c (.sl 1 ((n.fields.map (·.name)).map sPV))], [4152], fun hg => ⟨hg, by simp [AV.pureL, AV.pureB], rfl, fun k x z h5 h6 => ?_, rfl, hA⟩, hK _ _ _ ?_⟩)
      · match k with
        | 0 =>
          obtain rfl := Option.some.inj h5
          obtain rfl := Option.some.inj h6
          exact View.row (B := ⟨true, 9, 1, rA sPV (n.fields.map fun f : FT => f.name)⟩) (es := (n.fields.map fun f : FT => f.name).map sPV) rfl rfl hrl (rA_pv _ _)
        | k + 1 => simp at h5
      clear hK K
      refine walkGF (hrl) ?_
      (refine AO.step fun K hK => ?_; simp only [go_sem, Int.reduceBEq, Int.reduceLE, Int.reduceLT, Int.reduceNeg, Nat.reduceAdd, Nat.reduceEqDiff, Nat.reduceLT, Nat.reduceLeDiff, Nat.reduceMul, Nat.reduceSub, reduceCtorEq, ↓reduceIte, hrl]; (first | refine gsel_go ?_ | skip))
      refine .inr (.inl ⟨.c (.v (.bool b2)), [.c (.sl 1 ((n.fields.map (·.name)).map sPV))], [4152], fun hg => ⟨hg, by simp [AV.pureL, AV.pureB], rfl, fun k x z h5 h6 => ?_, rfl, hO⟩, hK _ _ _ ?_⟩)
      · match k with
        | 0 =>
          obtain rfl := Option.some.inj h5
          obtain rfl := Option.some.inj h6
          exact View.row (B := ⟨true, 9, 1, rA sPV (n.fields.map fun f : FT => f.name)⟩) (es := (n.fields.map fun f : FT => f.name).map sPV) rfl rfl hrl (rA_pv _ _)
        | k + 1 => simp at h5
      clear hK K
      refine walkG ?_
      refine .normal ⟨(b0 && b1) && b2, by rw [hV9, hFi.out]⟩ ?_
      simp only [ncells_mk, scells_mk, Weak, eq_self, used_is, sc_any, sc_c, sc_pp, sc_ref, sc_row, sc_agg, sc_fn, ScL, some_imp, List.forall_mem_map, go_sem, Int.reduceBEq, Int.reduceLE, Int.reduceLT, Int.reduceNeg, Nat.reduceAdd, Nat.reduceEqDiff, Nat.reduceLT, Nat.reduceLeDiff, Nat.reduceMul, Nat.reduceSub, reduceCtorEq, ↓reduceIte]
      done
  by_cases h10 : n.kind = 10
  · rw [h10] at hV
    have e9 : (n.kind == 9) = false := by simpa using h9
    have e10 : (n.kind == 10) = true := by simpa using h10
    have o1 : decide (n.kind ≥ 1) = true := by rw [h10]; rfl
    have o2 : decide (n.kind ≤ 14) = true := by rw [h10]; rfl
    have hV10 : V = ((((n.has == n.symbols.contains n.dflt) && (n.has || n.dflt.isEmpty)) && (decide (1 ≤ n.symbols.length) && (decide (n.symbols.length ≤ 40) && diffM simpleM n.symbols))) && bB) := by rw [hV]; simp [Bool.and_comm]
    clear hV
    have pk : (partN n).kind = n.kind := rfl
    have pf : (partN n).fields = [] := by simp [partN, h10]
    have ps : (partN n).symbols = n.symbols := by simp [partN, h10]
    have ph : (partN n).has = n.has := by simp [partN, h10]
    have pd : (partN n).dflt = n.dflt := by simp [partN, h10]
    have pz : (partN n).size = 0 := by simp [partN, h10]
    have pi : (partN n).items = 0 := by simp [partN, h10]
    have pb : (partN n).branches = [] := by simp [partN, h10]
    have hE : (⟨#[]⟩ : ByteArray).toList = [] := str_toList []
    refine walkBF (And.intro @ncells_mk (And.intro e9 e10)) ?_
    refine VC.loop (ι := {i : Nat // i ≤ n.symbols.length}) (fun q => [(2, .ref 0 1 0 0), (3, .ref 8 1 0 0), (5, .ref 48 1 0 0), (7, .c (.v (.bool true))), (11, .c (.v (.bool ((n.symbols.take q.1).contains n.dflt)))), (12, .c (.v (.int .i64 (q.1 : Int))))])
      (fun q => [(0, ⟨false, 24, 2, [s.cells.map .c]⟩), (8, ⟨false, 33, 10, [n.cells.map .c]⟩), (48, ⟨false, 33, 10, [(partN n).cells.map .c]⟩)]) 5000 (fun q => n.symbols.length - q.1) ⟨0, Nat.zero_le _⟩ ?_ ?_
    · simp only [ncells_mk, scells_mk, o1, o2, pk, pf, ps, ph, pd, pz, pi, pb, Weak, eq_self, used_is, sc_any, sc_c, sc_pp, sc_ref, sc_row, sc_agg, sc_fn, ScL, some_imp, List.forall_mem_map, go_sem, Int.reduceBEq, Int.reduceLE, Int.reduceLT, Int.reduceNeg, Nat.reduceAdd, Nat.reduceEqDiff, Nat.reduceLT, Nat.reduceLeDiff, Nat.reduceMul, Nat.reduceSub, reduceCtorEq, ↓reduceIte]
      simp
    rintro ⟨i, hi⟩
    simp only []
    refine walkGF (And.intro @ncells_mk @scells_mk) ?_
    refine VC.cond (by rfl) (by trivial) (fun hc => ?_) (fun hc => ?_)
    · have hlt : i < n.symbols.length := by simp at hc; omega
      obtain ⟨x, hx⟩ : ∃ x, n.symbols[i]? = some x := ⟨n.symbols[i], List.getElem?_eq_getElem hlt⟩
      have hw : IntKind.i64.wrap ((i : Int) + 1) = (i : Int) + 1 := wrap64_id (by omega) (by omega)
      have hxp : (n.symbols.map sPV)[i]? = some (sPV x) := by rw [List.getElem?_map, hx]; rfl
      have hnx : (n.symbols.take (i + 1)).contains n.dflt = ((n.symbols.take i).contains n.dflt || (x == n.dflt)) := by
        rw [List.take_add_one, hx, Bool.eq_iff_iff]
        simp
        exact ⟨fun h => h.imp id Eq.symm, fun h => h.imp id Eq.symm⟩
      obtain ⟨b0, hb0⟩ : ∃ b, b = (n.symbols.take i).contains n.dflt := ⟨_, rfl⟩
      rw [← hb0] at hnx ⊢
      clear hb0
      replace hnx := Lib.hid hnx
      refine walkGF (And.intro @ncells_mk (And.intro @scells_mk (And.intro hxp (And.intro @sPV_eq (And.intro @str_toList hw))))) ?_
      refine .next ⟨i + 1, by omega⟩ ?_ (by simp only []; omega)
      simp only [ncells_mk, scells_mk, hnx.out, Weak, eq_self, used_is, sc_any, sc_c, sc_pp, sc_ref, sc_row, sc_agg, sc_fn, ScL, some_imp, List.forall_mem_map, go_sem, Int.reduceBEq, Int.reduceLE, Int.reduceLT, Int.reduceNeg, Nat.reduceAdd, Nat.reduceEqDiff, Nat.reduceLT, Nat.reduceLeDiff, Nat.reduceMul, Nat.reduceSub, reduceCtorEq, ↓reduceIte]
      exact cI (by omega)
    · have hie : i = n.symbols.length := by simp at hc; omega
      rw [show n.symbols.take i = n.symbols by rw [hie, List.take_length]]
      have hA := rsimples_told n.symbols (by omega) fun x hx => by have := hs2 x hx; omega
      have hO := ronce_told n.symbols (by omega)
      have hF : ((((n.has == n.symbols.contains n.dflt) && (n.has || n.dflt.isEmpty)) && (decide (1 ≤ n.symbols.length) && (decide (n.symbols.length ≤ 40) && diffM simpleM n.symbols)))) =
          (((decide ((n.symbols.length : Int) > 0) && allM simpleM n.symbols) && decide n.symbols.Nodup) && ((n.has && n.symbols.contains n.dflt) || (!n.has && (n.dflt == [])))) := by
        have e1 : decide ((n.symbols.length : Int) > 0) = decide (1 ≤ n.symbols.length) := decide_eq_decide.2 (by omega)
        have e2 : n.dflt.isEmpty = (n.dflt == []) := by cases n.dflt <;> rfl
        have e3 : n.symbols.all simpleM = true → (n.dflt == []) = true → n.symbols.contains n.dflt = false := fun ha hd => by
          rw [Bool.eq_false_iff]
          intro hm
          have h1 := List.all_eq_true.1 ha n.dflt (by simpa using hm)
          have h2 : n.dflt = [] := by simpa using hd
          rw [h2] at h1
          exact absurd h1 (by decide)
        rw [e1, e2, diffM, allM]
        generalize decide (1 ≤ n.symbols.length) = x1
        generalize decide (n.symbols.length ≤ 40) = x2
        generalize decide n.symbols.Nodup = x3
        generalize n.symbols.all simpleM = x4 at e3 ⊢
        generalize (n.dflt == []) = x5 at e3 ⊢
        generalize n.symbols.contains n.dflt = x6 at e3 ⊢
        cases x1 <;> cases x2 <;> cases x3 <;> cases x4 <;> cases x5 <;> cases x6 <;> cases n.has <;> simp at e3 ⊢
      obtain ⟨b0, hb0⟩ : ∃ b, b = n.symbols.contains n.dflt := ⟨_, rfl⟩
      obtain ⟨b1, hb1⟩ : ∃ b, b = allM simpleM n.symbols := ⟨_, rfl⟩
      obtain ⟨b2, hb2⟩ : ∃ b, b = decide n.symbols.Nodup := ⟨_, rfl⟩
      rw [hF, ← hb0, ← hb1, ← hb2] at hV10
      rw [← hb0]
      rw [← hb1] at hA
      rw [← hb2] at hO
      clear hb0 hb1 hb2 hF
      cases hnh : n.has with
      | true =>
        rw [hnh] at hV10
        replace hV10 := Lib.hid hV10
        refine walkGF (And.intro @ncells_mk @scells_mk) ?_
        refine walkD (hA) ?_
        refine walkGF (And.intro @ncells_mk @scells_mk) ?_
        refine walkD (hO) ?_
        refine walkGF (And.intro @ncells_mk (And.intro @scells_mk (And.intro @str_toList (And.intro hE hnh)))) ?_
        refine .normal ⟨_, hV10.out⟩ ?_
        simp only [ncells_mk, scells_mk, Weak, eq_self, used_is, sc_any, sc_c, sc_pp, sc_ref, sc_row, sc_agg, sc_fn, ScL, some_imp, List.forall_mem_map, go_sem, Int.reduceBEq, Int.reduceLE, Int.reduceLT, Int.reduceNeg, Nat.reduceAdd, Nat.reduceEqDiff, Nat.reduceLT, Nat.reduceLeDiff, Nat.reduceMul, Nat.reduceSub, reduceCtorEq, ↓reduceIte]
      | false =>
        rw [hnh] at hV10
        replace hV10 := Lib.hid hV10
        refine walkGF (And.intro @ncells_mk @scells_mk) ?_
        refine walkD (hA) ?_
        refine walkGF (And.intro @ncells_mk @scells_mk) ?_
        refine walkD (hO) ?_
        refine walkGF (And.intro @ncells_mk (And.intro @scells_mk (And.intro @str_toList (And.intro hE hnh)))) ?_
        refine .normal ⟨_, hV10.out⟩ ?_
        simp only [ncells_mk, scells_mk, Weak, eq_self, used_is, sc_any, sc_c, sc_pp, sc_ref, sc_row, sc_agg, sc_fn, ScL, some_imp, List.forall_mem_map, go_sem, Int.reduceBEq, Int.reduceLE, Int.reduceLT, Int.reduceNeg, Nat.reduceAdd, Nat.reduceEqDiff, Nat.reduceLT, Nat.reduceLeDiff, Nat.reduceMul, Nat.reduceSub, reduceCtorEq, ↓reduceIte]
  by_cases h1112 : n.kind = 11 ∨ n.kind = 12
  · have hV11 : V = (true && bB) := by
      rw [hV, if_neg h9, if_neg h10, if_neg (by omega), if_neg (by omega)]
      have o1 : decide (1 ≤ n.kind) = true := by simp; omega
      have o2 : decide (n.kind ≤ 14) = true := by simp; omega
      rw [o1, o2]
      simp
    have e9 : (n.kind == 9) = false := by simpa using h9
    have e10 : (n.kind == 10) = false := by simpa using h10
    have o1 : decide (n.kind ≥ 1) = true := by simp; omega
    have o2 : decide (n.kind ≤ 14) = true := by simp; omega
    clear hV
    have hz : n.kind ≠ 13 ∧ n.kind ≠ 14 := by omega
    have pk : (partN n).kind = n.kind := rfl
    have pf : (partN n).fields = [] := by simp [partN, h9, h10, h1112, hz.1, hz.2]
    have ps : (partN n).symbols = [] := by simp [partN, h9, h10, h1112, hz.1, hz.2]
    have ph : (partN n).has = false := by simp [partN, h9, h10, h1112, hz.1, hz.2]
    have pd : (partN n).dflt = [] := by simp [partN, h9, h10, h1112, hz.1, hz.2]
    have pz : (partN n).size = 0 := by simp [partN, h9, h10, h1112, hz.1, hz.2]
    have pi : (partN n).items = n.items := by simp [partN, h9, h10, h1112, hz.1, hz.2]
    have pb : (partN n).branches = [] := by simp [partN, h9, h10, h1112, hz.1, hz.2]
    rcases h1112 with h11 | h11
    · have e11 : (n.kind == 11) = true := by simpa using h11
      refine walkBF (And.intro @ncells_mk (And.intro e9 (And.intro e10 e11))) ?_
      refine .normal ⟨true, hV11⟩ ?_
      simp only [ncells_mk, scells_mk, o1, o2, pk, pf, ps, ph, pd, pz, pi, pb, Weak, eq_self, used_is, sc_any, sc_c, sc_pp, sc_ref, sc_row, sc_agg, sc_fn, ScL, some_imp, List.forall_mem_map, go_sem, Int.reduceBEq, Int.reduceLE, Int.reduceLT, Int.reduceNeg, Nat.reduceAdd, Nat.reduceEqDiff, Nat.reduceLT, Nat.reduceLeDiff, Nat.reduceMul, Nat.reduceSub, reduceCtorEq, ↓reduceIte]
      done
    · have e11 : (n.kind == 11) = false := by simp; omega
      have e12 : (n.kind == 12) = true := by simpa using h11
      refine walkBF (And.intro @ncells_mk (And.intro e9 (And.intro e10 (And.intro e11 e12)))) ?_
      refine .normal ⟨true, hV11⟩ ?_
      simp only [ncells_mk, scells_mk, o1, o2, pk, pf, ps, ph, pd, pz, pi, pb, Weak, eq_self, used_is, sc_any, sc_c, sc_pp, sc_ref, sc_row, sc_agg, sc_fn, ScL, some_imp, List.forall_mem_map, go_sem, Int.reduceBEq, Int.reduceLE, Int.reduceLT, Int.reduceNeg, Nat.reduceAdd, Nat.reduceEqDiff, Nat.reduceLT, Nat.reduceLeDiff, Nat.reduceMul, Nat.reduceSub, reduceCtorEq, ↓reduceIte]
      done
  have e9 : (n.kind == 9) = false := by simpa using h9
  have e10 : (n.kind == 10) = false := by simpa using h10
  have e11 : (n.kind == 11) = false := by simp; omega
  have e12 : (n.kind == 12) = false := by simp; omega
  by_cases h13 : n.kind = 13
  · have hbr := hbr h13
    have o1 : decide (n.kind ≥ 1) = true := by simp; omega
    have o2 : decide (n.kind ≤ 14) = true := by simp; omega
    have e13 : (n.kind == 13) = true := by simpa using h13
    have hV13 : V = (((decide ((n.branches.length : Int) > 0) && decide ((n.branches.length : Int) ≤ 10)) && branchesM s.nodes [] n.branches) && bB) := by
      have x1 : decide ((n.branches.length : Int) > 0) = decide (1 ≤ n.branches.length) := decide_eq_decide.2 (by omega)
      have x2 : decide ((n.branches.length : Int) ≤ 10) = decide (n.branches.length ≤ 10) := decide_eq_decide.2 (by omega)
      rw [hV, if_neg h9, if_neg h10, if_neg (by omega), if_pos h13, h13, unionM, x1, x2]
      simp [Bool.and_comm, Bool.and_assoc]
    clear hV
    have pk : (partN n).kind = n.kind := rfl
    have pf : (partN n).fields = [] := by simp [partN, h13]
    have ps : (partN n).symbols = [] := by simp [partN, h13]
    have ph : (partN n).has = false := by simp [partN, h13]
    have pd : (partN n).dflt = [] := by simp [partN, h13]
    have pz : (partN n).size = 0 := by simp [partN, h13]
    have pi : (partN n).items = 0 := by simp [partN, h13]
    have pb : (partN n).branches = n.branches := by simp [partN, h13]
    obtain ⟨L, hL⟩ : ∃ L, L = (decide ((n.branches.length : Int) > 0) && decide ((n.branches.length : Int) ≤ 10)) := ⟨_, rfl⟩
    rw [← hL] at hV13
    refine walkBF (And.intro @ncells_mk (And.intro e9 (And.intro e10 (And.intro e11 (And.intro e12 e13))))) ?_
    refine VC.loop (ι := {i : Nat // i ≤ n.branches.length}) (fun q => [(2, .ref 0 1 0 0), (3, .ref 8 1 0 0), (5, .ref 48 1 0 0), (7, .c (.v (.bool (L && branchesM s.nodes [] (n.branches.take q.1))))), (13, .c (.v (.int .i64 (q.1 : Int))))])
      (fun q => [(0, ⟨false, 24, 2, [s.cells.map .c]⟩), (8, ⟨false, 33, 10, [n.cells.map .c]⟩), (48, ⟨false, 33, 10, [(partN n).cells.map .c]⟩)]) 10000 (fun q => n.branches.length - q.1) ⟨0, Nat.zero_le _⟩ ?_ ?_
    · simp only [ncells_mk, scells_mk, o1, o2, hL, pk, pf, ps, ph, pd, pz, pi, pb, Weak, eq_self, used_is, sc_any, sc_c, sc_pp, sc_ref, sc_row, sc_agg, sc_fn, ScL, some_imp, List.forall_mem_map, go_sem, Int.reduceBEq, Int.reduceLE, Int.reduceLT, Int.reduceNeg, Nat.reduceAdd, Nat.reduceEqDiff, Nat.reduceLT, Nat.reduceLeDiff, Nat.reduceMul, Nat.reduceSub, reduceCtorEq, ↓reduceIte]
      simp [branchesM]
    rintro ⟨i, hi⟩
    simp only []
    refine walkGF (And.intro @ncells_mk @scells_mk) ?_
    refine VC.cond (by rfl) (by trivial) (fun hc => ?_) (fun hc => ?_)
    · have hlt : i < n.branches.length := by simp at hc; omega
      obtain ⟨x, hx⟩ : ∃ x, n.branches[i]? = some x := ⟨n.branches[i], List.getElem?_eq_getElem hlt⟩
      obtain ⟨y0, y1⟩ := hbr x (List.mem_of_getElem? hx)
      obtain ⟨p, rfl⟩ : ∃ p : Nat, x = (p : Int) := ⟨x.toNat, by omega⟩
      obtain ⟨m, hm⟩ : ∃ m, s.nodes[p]? = some m := ⟨s.nodes[p]'(by omega), List.getElem?_eq_getElem (by omega)⟩
      have hmp : (s.nodes.map NT.cells)[p]? = some m.cells := by rw [List.getElem?_map, hm]; rfl
      have hw : IntKind.i64.wrap ((i : Int) + 1) = (i : Int) + 1 := wrap64_id (by omega) (by omega)
      have hxp : (n.branches.map iPV)[i]? = some (iPV (p : Int)) := by rw [List.getElem?_map, hx]; rfl
      have hnx : branchesM s.nodes [] (n.branches.take (i + 1)) = (branchesM s.nodes [] (n.branches.take i) && branchM s.nodes (n.branches.take i) (p : Int)) := by
        rw [List.take_add_one, hx, Option.toList_some, branchesM_snoc, List.nil_append]
      rw [branchM, Int.toNat_natCast, kindAt_of hm] at hnx
      obtain ⟨b0, hb0⟩ : ∃ b, b = branchesM s.nodes [] (n.branches.take i) := ⟨_, rfl⟩
      rw [← hb0] at hnx ⊢
      clear hb0
      replace hnx := Lib.hid hnx
      have hNm := rnamed10_told m.kind
      obtain ⟨bn, hbn⟩ : ∃ b, b = namedK m.kind := ⟨_, rfl⟩
      rw [← hbn] at hNm
      refine walkGF (And.intro @ncells_mk (And.intro @scells_mk (And.intro hxp (And.intro @iPV_eq hmp)))) ?_
      refine VC.loop (ι := {k : Nat // k ≤ i}) (fun q => [(2, .ref 0 1 0 0), (3, .ref 8 1 0 0), (5, .ref 48 1 0 0), (7, .c (.v (.bool (((L && b0) && (m.kind != 13)) && !(n.branches.take q.1).any fun z => z == (p : Int) || (!bn && kindAt s.nodes z.toNat == m.kind))))), (13, .c (.v (.int .i64 (i : Int)))), (14, .ref 10112 1 0 0), (15, .c (.v (.int .i64 (q.1 : Int))))])
        (fun q => [(0, ⟨false, 24, 2, [s.cells.map .c]⟩), (8, ⟨false, 33, 10, [n.cells.map .c]⟩), (48, ⟨false, 33, 10, [(partN n).cells.map .c]⟩), (10112, ⟨false, 33, 10, [m.cells.map .c]⟩)]) 20000 (fun q => i - q.1) ⟨0, Nat.zero_le _⟩ ?_ ?_
      · simp only [ncells_mk, scells_mk, Weak, eq_self, used_is, sc_any, sc_c, sc_pp, sc_ref, sc_row, sc_agg, sc_fn, ScL, some_imp, List.forall_mem_map, go_sem, Int.reduceBEq, Int.reduceLE, Int.reduceLT, Int.reduceNeg, Nat.reduceAdd, Nat.reduceEqDiff, Nat.reduceLT, Nat.reduceLeDiff, Nat.reduceMul, Nat.reduceSub, reduceCtorEq, ↓reduceIte]
        simp
      rintro ⟨k, hk⟩
      simp only []
      refine walkGF (And.intro @ncells_mk @scells_mk) ?_
      refine VC.cond (by rfl) (by trivial) (fun hc2 => ?_) (fun hc2 => ?_)
      · have hki : k < i := by simp at hc2; omega
        obtain ⟨y, hy⟩ : ∃ y, n.branches[k]? = some y := ⟨n.branches[k]'(by omega), List.getElem?_eq_getElem (by omega)⟩
        obtain ⟨z0, z1⟩ := hbr y (List.mem_of_getElem? hy)
        obtain ⟨r, rfl⟩ : ∃ r : Nat, y = (r : Int) := ⟨y.toNat, by omega⟩
        obtain ⟨w, hwn⟩ : ∃ w, s.nodes[r]? = some w := ⟨s.nodes[r]'(by omega), List.getElem?_eq_getElem (by omega)⟩
        have hwp : (s.nodes.map NT.cells)[r]? = some w.cells := by rw [List.getElem?_map, hwn]; rfl
        have hwk : IntKind.i64.wrap ((k : Int) + 1) = (k : Int) + 1 := wrap64_id (by omega) (by omega)
        have hyp : (n.branches.map iPV)[k]? = some (iPV (r : Int)) := by rw [List.getElem?_map, hy]; rfl
        have hnk : (!(n.branches.take (k + 1)).any fun z => z == (p : Int) || (!bn && kindAt s.nodes z.toNat == m.kind)) = ((!(n.branches.take k).any fun z => z == (p : Int) || (!bn && kindAt s.nodes z.toNat == m.kind)) && (((p : Int) != (r : Int)) && ((m.kind != w.kind) || bn))) := by
          rw [List.take_add_one, hy, List.any_append]
          simp only [Option.toList_some, List.any_cons, List.any_nil, Bool.or_false, Int.toNat_natCast, kindAt_of hwn, Bool.not_or, Bool.not_and, Bool.not_not]
          congr 1
          congr 1
          · rw [bne_comm]; rfl
          · rw [Bool.or_comm, bne_comm]; rfl
        obtain ⟨b1, hb1⟩ : ∃ b, b = !(n.branches.take k).any fun z => z == (p : Int) || (!bn && kindAt s.nodes z.toNat == m.kind) := ⟨_, rfl⟩
        rw [← hb1] at hnk ⊢
        clear hb1
        replace hnk := Lib.hid hnk
        refine walkGF (And.intro @ncells_mk (And.intro @scells_mk (And.intro hxp (And.intro hyp (And.intro @iPV_eq (And.intro hmp hwp)))))) ?_
        refine walkD (hNm) ?_
        refine walkGF (hwk) ?_
        refine .next ⟨k + 1, by omega⟩ ?_ (by simp only []; omega)
        simp only [ncells_mk, scells_mk, hnk.out, Bool.and_assoc, Weak, eq_self, used_is, sc_any, sc_c, sc_pp, sc_ref, sc_row, sc_agg, sc_fn, ScL, some_imp, List.forall_mem_map, go_sem, Int.reduceBEq, Int.reduceLE, Int.reduceLT, Int.reduceNeg, Nat.reduceAdd, Nat.reduceEqDiff, Nat.reduceLT, Nat.reduceLeDiff, Nat.reduceMul, Nat.reduceSub, reduceCtorEq, ↓reduceIte]
        exact cI (by omega)
      · have hke : k = i := by simp at hc2; omega
        subst hke
        refine walkGF (hw) ?_
        refine .next ⟨k + 1, by omega⟩ ?_ (by simp only []; omega)
        simp only [ncells_mk, scells_mk, hnx.out, hbn, Bool.and_assoc, Weak, eq_self, used_is, sc_any, sc_c, sc_pp, sc_ref, sc_row, sc_agg, sc_fn, ScL, some_imp, List.forall_mem_map, go_sem, Int.reduceBEq, Int.reduceLE, Int.reduceLT, Int.reduceNeg, Nat.reduceAdd, Nat.reduceEqDiff, Nat.reduceLT, Nat.reduceLeDiff, Nat.reduceMul, Nat.reduceSub, reduceCtorEq, ↓reduceIte]
        exact cI (by omega)
    · have hie : i = n.branches.length := by simp at hc; omega
      rw [show n.branches.take i = n.branches by rw [hie, List.take_length]]
      refine walkG ?_
      refine .normal ⟨_, hV13⟩ ?_
      simp only [ncells_mk, scells_mk, Weak, eq_self, used_is, sc_any, sc_c, sc_pp, sc_ref, sc_row, sc_agg, sc_fn, ScL, some_imp, List.forall_mem_map, go_sem, Int.reduceBEq, Int.reduceLE, Int.reduceLT, Int.reduceNeg, Nat.reduceAdd, Nat.reduceEqDiff, Nat.reduceLT, Nat.reduceLeDiff, Nat.reduceMul, Nat.reduceSub, reduceCtorEq, ↓reduceIte]
  have e13 : (n.kind == 13) = false := by simpa using h13
  by_cases h14 : n.kind = 14
  · have o1 : decide (n.kind ≥ 1) = true := by simp; omega
    have o2 : decide (n.kind ≤ 14) = true := by simp; omega
    have hV14 : V = ((decide (n.size ≥ 0) && decide (n.size ≤ 1000)) && bB) := by
      rw [hV, if_neg h9, if_neg h10, if_pos h14, h14]
      simp [Bool.and_comm]
    clear hV
    have pk : (partN n).kind = n.kind := rfl
    have pf : (partN n).fields = [] := by simp [partN, h14]
    have ps : (partN n).symbols = [] := by simp [partN, h14]
    have ph : (partN n).has = false := by simp [partN, h14]
    have pd : (partN n).dflt = [] := by simp [partN, h14]
    have pz : (partN n).size = n.size := by simp [partN, h14]
    have pi : (partN n).items = 0 := by simp [partN, h14]
    have pb : (partN n).branches = [] := by simp [partN, h14]
    have e14 : (n.kind == 14) = true := by simpa using h14
    refine walkBF (And.intro @ncells_mk (And.intro e9 (And.intro e10 (And.intro e11 (And.intro e12 (And.intro e13 e14)))))) ?_
    refine .normal ⟨_, hV14⟩ ?_
    simp only [ncells_mk, scells_mk, o1, o2, pk, pf, ps, ph, pd, pz, pi, pb, Weak, eq_self, used_is, sc_any, sc_c, sc_pp, sc_ref, sc_row, sc_agg, sc_fn, ScL, some_imp, List.forall_mem_map, go_sem, Int.reduceBEq, Int.reduceLE, Int.reduceLT, Int.reduceNeg, Nat.reduceAdd, Nat.reduceEqDiff, Nat.reduceLT, Nat.reduceLeDiff, Nat.reduceMul, Nat.reduceSub, reduceCtorEq, ↓reduceIte]
    done
  · have hV0 : V = ((decide (n.kind ≥ 1) && decide (n.kind ≤ 14)) && bB) := by
      rw [hV, if_neg h9, if_neg h10, if_neg h14, if_neg h13]
      simp [Bool.and_assoc]
    clear hV
    have pk : (partN n).kind = n.kind := rfl
    have pf : (partN n).fields = [] := by simp [partN, h9, h10, h13, h14, h1112]
    have ps : (partN n).symbols = [] := by simp [partN, h9, h10, h13, h14, h1112]
    have ph : (partN n).has = false := by simp [partN, h9, h10, h13, h14, h1112]
    have pd : (partN n).dflt = [] := by simp [partN, h9, h10, h13, h14, h1112]
    have pz : (partN n).size = 0 := by simp [partN, h9, h10, h13, h14, h1112]
    have pi : (partN n).items = 0 := by simp [partN, h9, h10, h13, h14, h1112]
    have pb : (partN n).branches = [] := by simp [partN, h9, h10, h13, h14, h1112]
    have e14 : (n.kind == 14) = false := by simpa using h14
    refine walkBF (And.intro @ncells_mk (And.intro e9 (And.intro e10 (And.intro e11 (And.intro e12 (And.intro e13 e14)))))) ?_
    refine .normal ⟨_, hV0⟩ ?_
    simp only [ncells_mk, scells_mk, pk, pf, ps, ph, pd, pz, pi, pb, Weak, eq_self, used_is, sc_any, sc_c, sc_pp, sc_ref, sc_row, sc_agg, sc_fn, ScL, some_imp, List.forall_mem_map, go_sem, Int.reduceBEq, Int.reduceLE, Int.reduceLT, Int.reduceNeg, Nat.reduceAdd, Nat.reduceEqDiff, Nat.reduceLT, Nat.reduceLeDiff, Nat.reduceMul, Nat.reduceSub, reduceCtorEq, ↓reduceIte]
    done
end
end Go.Proofs.YtllnlmchjljhlaaGreatDoor
