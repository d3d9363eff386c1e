/- Texts that lead to the law FingerSchemas, joined. -/
import Derived.Test.YtkaogeogjjcdhaaGreatDoorPkFingerSchemasC
import Derived.Test.YtkaogeogjjcdhaaGreatDoorPkFingerSchemasB
namespace Go.Proofs.YtkaogeogjjcdhaaGreatDoor
open Go.RowKit
set_option linter.unusedVariables false
set_option linter.unusedSimpArgs false
section
attribute [local go_sem] opx opE ev okx gcond bnd okO AV.get AV.okb cAV upd_at putd_some putd_none wrs_nil wrs_cons look_nil look_cons st argT_at bpick_and bpick_or bpick_true bpick_false binV binI binS binVOk binOk isShift binSOk unV unVOk loadV loadP cellsA zeroA Blkd.len setE grown moreA moreR moreOk eqRes pv fillA fillE putSeg AV.cellish AV.pureL AV.pureB lentL_is ex_some AV.ren AV.renL renL_c Blkd.ren rho wrM renN lentOk rhoE keepM endOk tyA_2 tyA_3 tyA_4 tyA_5 tyA_6 tyA_7 tyA_8 tyA_9 tyA_10 tyA_11 tyA_12 tyA_13 tyA_14 tyA_15 tyA_16 tyA_17 tyA_18 tyA_19 tyA_21 tyA_22 tyA_23 tyA_24 tyA_29 tyA_30 tyA_31 tyA_32 tyA_33 tyA_34 tyA_35 tyA_36 tyA_37 tyA_38 tyA_39 tyA_40 tyA_41 tyA_42 tyA_43 tyA_48 tyA_89 tyA_93 tyA_107 tyA_108 tyA_109 tyA_113 tyA_114 tyA_115 tyA_116 tyA_117 tyA_119 tyA_120 tyA_121 tyA_122 tyA_131 tyA_134 tyA_135 tyA_136 tyA_137 tyA_138 tyA_154 tyA_156 tyA_157 tyA_158 tyA_159 tyA_170 tyA_180 tyA_181 tyA_182 tyA_196 tyA_202 tyA_208 tyA_209 tyA_210 tyA_211 tyA_212 tyA_213 tyA_229 tyA_230 tyA_231 tyA_241 tyA_264 tyA_268 tyA_293 tyA_294 tyA_295 tyA_311 tyA_313 tyA_321 tyA_326 tyA_334 tyA_338 tyA_340 tyA_343 tyA_344 tyA_345 tyA_346 tyA_347 tyA_348 tyA_349 tyA_351 tyA_352 Option.map_some Option.map_none Option.getD_some Option.getD_none Option.bind_some Option.bind_none List.getElem?_cons_zero List.getElem?_cons_succ List.getElem?_nil List.getElem?_toArray List.length_cons List.length_nil List.length_map List.forall_mem_map List.map_cons List.map_nil List.drop_zero List.drop_succ_cons List.drop_nil List.take_zero List.take_succ_cons List.take_nil List.mem_cons List.not_mem_nil or_false forall_eq_or_imp forall_eq List.set_cons_zero List.set_cons_succ List.cons_append List.nil_append List.append_nil List.foldl_cons List.foldl_nil List.replicate_succ List.replicate_zero List.all_cons List.all_nil if_true if_false Bool.false_eq_true ne_eq not_false_eq_true not_true_eq_false true_and and_true and_self true_implies imp_self implies_true forall_const beq_self_eq_true Bool.and_true Bool.true_and Bool.and_false Bool.false_and Bool.or_true Bool.true_or Bool.or_false Bool.false_or Bool.not_true Bool.not_false Bool.not_eq_eq_eq_not intKindOf Value.oneCell' Int.toNat_natCast beq_true beq_false Bool.not_eq_true false_implies false_or true_or or_true Nat.zero_add Nat.add_zero decide_true decide_false Int.cast_ofNat_Int Int.toNat_zero Int.toNat_one eq_self

def KnOk (kn : List Int) : Prop := ∀ x ∈ kn, -1 ≤ x ∧ x ≤ 1001
theorem KnOk.set {kn : List Int} (h : KnOk kn) (p : Nat) {v : Int} (hv : -1 ≤ v ∧ v ≤ 1001) : KnOk (kn.set p v) := fun x hx => by
  rcases List.mem_or_eq_of_mem_set hx with h1 | rfl
  · exact h x h1
  · exact hv
theorem count_set_le {kn : List Int} (p : Nat) {v : Int} (hv : v ≠ 0) : (kn.set p v).count 0 ≤ kn.count 0 := by
  by_cases hp : p < kn.length
  · rw [List.count_set hp]
    have : (v == 0) = false := by simpa using hv
    simp [this]
  · rw [List.set_eq_of_length_le (by omega)]
    exact Nat.le_refl _
theorem count_set_lt {kn : List Int} {p : Nat} {v : Int} (hp : kn[p]? = some 0) (hv : v ≠ 0) : (kn.set p v).count 0 < kn.count 0 := by
  obtain ⟨hlt, h0⟩ := List.getElem?_eq_some_iff.1 hp
  rw [List.count_set hlt]
  have : (v == 0) = false := by simpa using hv
  have hpos : 0 < kn.count 0 := List.count_pos_iff.2 (h0 ▸ List.getElem_mem hlt)
  simp [this, h0]
  omega
theorem weighK_ok (f : Nat → List Int → Int × List Int) (N : Nat) (hf : ∀ q kn, kn.length = N → KnOk kn → (f q kn).2.length = N ∧ KnOk (f q kn).2 ∧ (f q kn).2.count 0 ≤ kn.count 0 ∧ 1 ≤ (f q kn).1 ∧ (f q kn).1 ≤ 1001) :
    ∀ (xs : List FT) (n : Int) (kn : List Int), kn.length = N → KnOk kn → 1 ≤ n → n ≤ 1001 → (weighK f xs n kn).2.length = N ∧ KnOk (weighK f xs n kn).2 ∧ (weighK f xs n kn).2.count 0 ≤ kn.count 0 ∧ 1 ≤ (weighK f xs n kn).1 ∧ (weighK f xs n kn).1 ≤ 1001
  | [], n, kn, h1, h2, h3, h4 => ⟨h1, h2, Nat.le_refl _, h3, h4⟩
  | x :: xs, n, kn, h1, h2, h3, h4 => by
    rw [weighK]
    obtain ⟨a1, a2, a3, a4, a5⟩ := hf x.type.toNat kn h1 h2
    obtain ⟨b1, b2, b3, b4, b5⟩ := weighK_ok f N hf xs (min (n + (f x.type.toNat kn).1) 1001) (f x.type.toNat kn).2 a1 a2 (by omega) (by omega)
    exact ⟨b1, b2, by omega, b4, b5⟩
theorem knAt_of {kn : List Int} {p : Nat} {v : Int} (h : kn[p]? = some v) : knAt kn p = v := by rw [knAt, h]
theorem weighM_ok (ns : List NT) : ∀ (d q : Nat) (kn : List Int), kn.length = ns.length → KnOk kn → (weighM ns d q kn).2.length = ns.length ∧ KnOk (weighM ns d q kn).2 ∧ (weighM ns d q kn).2.count 0 ≤ kn.count 0 ∧ 1 ≤ (weighM ns d q kn).1 ∧ (weighM ns d q kn).1 ≤ 1001
  | 0, q, kn, h1, h2 => ⟨h1, h2, Nat.le_refl _, (by decide : (1 : Int) ≤ 1001), (by decide : (1001 : Int) ≤ 1001)⟩
  | d + 1, q, kn, h1, h2 => by
    rw [weighM]
    split
    · exact ⟨h1, h2, Nat.le_refl _, (by decide : (1 : Int) ≤ 1001), (by decide : (1001 : Int) ≤ 1001)⟩
    · split
      · rename_i h3 h4
        refine ⟨h1, h2, Nat.le_refl _, by omega, ?_⟩
        unfold knAt
        split
        · rename_i v hv
          exact (h2 v (List.mem_of_getElem? hv)).2
        · exact (by decide : (0 : Int) ≤ 1001)
      · obtain ⟨b1, b2, b3, b4, b5⟩ := weighK_ok (weighM ns d) ns.length (weighM_ok ns d) (fieldsAt ns q) 1 (kn.set q (-1)) (by rw [List.length_set]; exact h1) (h2.set q (by decide)) (by decide) (by decide)
        have c1 := count_set_le (kn := kn) q (v := -1) (by decide)
        have c2 := count_set_le (kn := (weighK (weighM ns d) (fieldsAt ns q) 1 (kn.set q (-1))).2) q (v := (weighK (weighM ns d) (fieldsAt ns q) 1 (kn.set q (-1))).1) (by omega)
        exact ⟨by rw [List.length_set]; exact b1, b2.set q (by omega), by simp only []; omega, b4, b5⟩
set_option maxRecDepth 100000 in
set_option maxHeartbeats 1600000 in
theorem weight_told (s : ST) (hl : s.nodes.length ≤ 1000000) (hs : ∀ n ∈ s.nodes, n.sm 1000000) (hr : ∀ n ∈ s.nodes, n.kind = 9 → ∀ f ∈ n.fields, 0 ≤ f.type ∧ f.type < (s.nodes.length : Int)) : ∀ (d p : Nat) (kn : List Int), p < s.nodes.length → kn.length = s.nodes.length → KnOk kn → kn.count 0 < d →
    ToldM Tryz.prog 97 [s.av, .c (.v (.int .i64 (p : Int))), .row 1000000 s.nodes.length] [⟨true, 3, 1, rA iPV kn⟩] [some ⟨true, 3, 1, rA iPV (weighM s.nodes d p kn).2⟩] (.c (.v (.int .i64 (weighM s.nodes d p kn).1))) := by
  intro d
  induction d with
  | zero => intro p kn _ _ _ h; omega
  | succ d ih =>
  intro p kn hp hk hko hc
  obtain ⟨R, hR⟩ : ∃ R, R = weighM s.nodes (d + 1) p kn := ⟨_, rfl⟩
  rw [← hR]
  rw [weighM] at hR
  obtain ⟨v, hv⟩ : ∃ v, kn[p]? = some v := ⟨kn[p]'(by omega), List.getElem?_eq_getElem (by omega)⟩
  rw [knAt_of hv] at hR
  have hvp : (rA iPV kn)[p]? = some [.c (.v (.int .i64 v))] := rA_at hv
  have hkl : (rA iPV kn).length = s.nodes.length := by rw [rA_len, hk]
  obtain ⟨N, hN⟩ : ∃ N, N = s.nodes.length := ⟨_, rfl⟩
  rw [ST.av_eq, scells_mk]
  by_cases hv0 : v < 0
  · rw [if_pos hv0] at hR
    subst hR
    have e0 : decide (v < 0) = true := by simpa using hv0
    refine VC.toldM ent_97 [] Tryz.func97 rfl Tryz.ntmps97 (by simp) (by simp only [ rA_len, rA_sc, hk, ScM, zOk, inL, eq_self, used_is, sc_any, sc_c, sc_pp, sc_ref, sc_row, sc_agg, sc_tup, sc_fn, ScL, some_imp, List.forall_mem_map, Nat.le_refl, go_sem, simprocAttr]) (by simp only [ rA_len, rA_sc, hk, ScM, zOk, inL, eq_self, used_is, sc_any, sc_c, sc_pp, sc_ref, sc_row, sc_agg, sc_tup, sc_fn, ScL, some_imp, List.forall_mem_map, Nat.le_refl, go_sem, simprocAttr]) (by simp only [ rA_len, rA_sc, hk, ScM, zOk, inL, eq_self, used_is, sc_any, sc_c, sc_pp, sc_ref, sc_row, sc_agg, sc_tup, sc_fn, ScL, some_imp, List.forall_mem_map, Nat.le_refl, go_sem, simprocAttr]) (by simp only [ rA_len, rA_sc, hk, ScM, zOk, inL, eq_self, used_is, sc_any, sc_c, sc_pp, sc_ref, sc_row, sc_agg, sc_tup, sc_fn, ScL, some_imp, List.forall_mem_map, Nat.le_refl, go_sem, simprocAttr]) (by simp) fun hb hbL => ?_
    clear hb hbL
    refine walkBF (And.intro hvp (And.intro hkl e0)) ?_
    refine ⟨by first | exact .inr rfl | exact .inl rfl, ?_⟩; rw [Tryz.results97]; simp only [rA_ren, resOk, resV, go_sem, Int.reduceBEq, Int.reduceLE, Int.reduceLT, Int.reduceNeg, Nat.reduceAdd, Nat.reduceEqDiff, Nat.reduceLT, Nat.reduceLeDiff, Nat.reduceMul, Nat.reduceSub, reduceCtorEq, ↓reduceIte]
    exact .c _
  have e0 : decide (v < 0) = false := by simpa using hv0
  rw [if_neg hv0] at hR
  by_cases hv1 : 0 < v
  · rw [if_pos hv1] at hR
    subst hR
    have e1 : decide (v > 0) = true := by simpa using hv1
    refine VC.toldM ent_97 [] Tryz.func97 rfl Tryz.ntmps97 (by simp) (by simp only [ rA_len, rA_sc, hk, ScM, zOk, inL, eq_self, used_is, sc_any, sc_c, sc_pp, sc_ref, sc_row, sc_agg, sc_tup, sc_fn, ScL, some_imp, List.forall_mem_map, Nat.le_refl, go_sem, simprocAttr]) (by simp only [ rA_len, rA_sc, hk, ScM, zOk, inL, eq_self, used_is, sc_any, sc_c, sc_pp, sc_ref, sc_row, sc_agg, sc_tup, sc_fn, ScL, some_imp, List.forall_mem_map, Nat.le_refl, go_sem, simprocAttr]) (by simp only [ rA_len, rA_sc, hk, ScM, zOk, inL, eq_self, used_is, sc_any, sc_c, sc_pp, sc_ref, sc_row, sc_agg, sc_tup, sc_fn, ScL, some_imp, List.forall_mem_map, Nat.le_refl, go_sem, simprocAttr]) (by simp only [ rA_len, rA_sc, hk, ScM, zOk, inL, eq_self, used_is, sc_any, sc_c, sc_pp, sc_ref, sc_row, sc_agg, sc_tup, sc_fn, ScL, some_imp, List.forall_mem_map, Nat.le_refl, go_sem, simprocAttr]) (by simp) fun hb hbL => ?_
    clear hb hbL
    refine walkBF (And.intro hvp (And.intro hkl (And.intro e0 e1))) ?_
    refine ⟨by first | exact .inr rfl | exact .inl rfl, ?_⟩; rw [Tryz.results97]; simp only [rA_ren, resOk, resV, go_sem, Int.reduceBEq, Int.reduceLE, Int.reduceLT, Int.reduceNeg, Nat.reduceAdd, Nat.reduceEqDiff, Nat.reduceLT, Nat.reduceLeDiff, Nat.reduceMul, Nat.reduceSub, reduceCtorEq, ↓reduceIte]
    exact .c _
  have e1 : decide (v > 0) = false := by simpa using hv1
  rw [if_neg hv1] at hR
  obtain rfl : v = 0 := by omega
  obtain ⟨n, hn⟩ : ∃ n, s.nodes[p]? = some n := ⟨s.nodes[p], List.getElem?_eq_getElem hp⟩
  have hnp : (s.nodes.map NT.cells)[p]? = some n.cells := by rw [List.getElem?_map, hn]; rfl
  have hns := hs n (List.mem_of_getElem? hn)
  have hfl := hns.2.2.2.2.2.1
  have hset : (rA iPV kn).set p [.c (.v (.int .i64 (-1)))] = rA iPV (kn.set p (-1)) := rA_set kn p (-1)
  have hfa : fieldsAt s.nodes p = if n.kind = 9 then n.fields else [] := by rw [fieldsAt, hn]
  obtain ⟨K0, hK0⟩ : ∃ K, K = weighK (weighM s.nodes d) (fieldsAt s.nodes p) 1 (kn.set p (-1)) := ⟨_, rfl⟩
  rw [← hK0] at hR
  subst hR
  have hct := count_set_lt (v := -1) hv (by decide)
  refine VC.toldM ent_97 [] Tryz.func97 rfl Tryz.ntmps97 (by simp) (by simp only [ rA_len, rA_sc, hk, ScM, zOk, inL, eq_self, used_is, sc_any, sc_c, sc_pp, sc_ref, sc_row, sc_agg, sc_tup, sc_fn, ScL, some_imp, List.forall_mem_map, Nat.le_refl, go_sem, simprocAttr]) (by simp only [ rA_len, rA_sc, hk, ScM, zOk, inL, eq_self, used_is, sc_any, sc_c, sc_pp, sc_ref, sc_row, sc_agg, sc_tup, sc_fn, ScL, some_imp, List.forall_mem_map, Nat.le_refl, go_sem, simprocAttr]) (by simp only [ rA_len, rA_sc, hk, ScM, zOk, inL, eq_self, used_is, sc_any, sc_c, sc_pp, sc_ref, sc_row, sc_agg, sc_tup, sc_fn, ScL, some_imp, List.forall_mem_map, Nat.le_refl, go_sem, simprocAttr]) (by simp only [ rA_len, rA_sc, hk, ScM, zOk, inL, eq_self, used_is, sc_any, sc_c, sc_pp, sc_ref, sc_row, sc_agg, sc_tup, sc_fn, ScL, some_imp, List.forall_mem_map, Nat.le_refl, go_sem, simprocAttr]) (by simp) fun hb hbL => ?_
  clear hb hbL
  refine walkBF (And.intro hvp (And.intro hkl (And.intro e0 (And.intro e1 (And.intro hset (And.intro hnp @ncells_mk)))))) ?_
  refine VC.loop (ι := {x : Nat × (Int × List Int) // x.1 ≤ n.fields.length ∧ x.2.2.length = s.nodes.length ∧ KnOk x.2.2 ∧ x.2.2.count 0 < kn.count 0 ∧ 1 ≤ x.2.1 ∧ x.2.1 ≤ 1001 ∧ (if n.kind = 9 then weighK (weighM s.nodes d) (n.fields.drop x.1) x.2.1 x.2.2 else (x.2.1, x.2.2)) = K0})
    (fun q => [(1, .c (.v (.int .i64 (p : Int)))), (2, .row 1000000 s.nodes.length), (3, .ref 0 1 0 0), (7, .c (.v (.int .i64 q.1.2.1))), (34, .c (.sl 9 (n.fields.map FT.cells))), (35, .c (.v (.int .i64 (n.fields.length : Int)))), (36, .c (.v (.int .i64 (q.1.1 : Int))))])
    (fun q => [(0, ⟨false, 24, 2, [[.c (.sl 10 (s.nodes.map NT.cells)), .c (.v (.int .i64 s.root))]]⟩), (1000000, ⟨true, 3, 1, rA iPV q.1.2.2⟩)]) 800 (fun q => n.fields.length - q.1.1)
    ⟨(0, (1, kn.set p (-1))), Nat.zero_le _, by simp only []; rw [List.length_set]; exact hk, hko.set p (by decide), hct, by simp only []; omega, by simp only []; omega, by
      rw [hK0, hfa]
      split
      · rw [List.drop_zero]
      · rfl⟩ ?_ ?_
  · simp only [rA_len, rA_sc, hk, List.length_set, Weak, eq_self, used_is, sc_any, sc_c, sc_pp, sc_ref, sc_row, sc_agg, sc_fn, ScL, some_imp, List.forall_mem_map, go_sem, Int.reduceBEq, Int.reduceLE, Int.reduceLT, Int.reduceNeg, Nat.reduceAdd, Nat.reduceEqDiff, Nat.reduceLT, Nat.reduceLeDiff, Nat.reduceMul, Nat.reduceSub, reduceCtorEq, ↓reduceIte]
    try simp
  clear hK0 hct hv hvp hset
  rintro ⟨⟨i, m, kn'⟩, hi, hk', hko', hc', hm1, hm2, hK⟩
  simp only [] at hi hk' hko' hc' hm1 hm2 hK ⊢
  have hkl' : (rA iPV kn').length = s.nodes.length := by rw [rA_len, hk']
  refine walkG ?_
  refine VC.cond (by rfl) (by trivial) (fun hc2 => ?_) (fun hc2 => ?_)
  · have hil : i < n.fields.length := by simp at hc2; omega
    obtain ⟨f, hx⟩ : ∃ f, n.fields[i]? = some f := ⟨n.fields[i], List.getElem?_eq_getElem hil⟩
    have hxp : (n.fields.map FT.cells)[i]? = some f.cells := by rw [List.getElem?_map, hx]; rfl
    have hw : IntKind.i64.wrap ((i : Int) + 1) = (i : Int) + 1 := wrap64_id (by omega) (by omega)
    by_cases h9 : n.kind = 9
    · have e9 : (n.kind == 9) = true := by simpa using h9
      obtain ⟨h0, h1⟩ := hr n (List.mem_of_getElem? hn) h9 f (List.mem_of_getElem? hx)
      obtain ⟨q, hq⟩ : ∃ q : Nat, f.type = (q : Int) := ⟨f.type.toNat, by omega⟩
      have hI := ih q kn' (by omega) hk' hko' (by omega)
      obtain ⟨w1, w2, w3, w4, w5⟩ := weighM_ok s.nodes d q kn' hk' hko'
      rw [if_pos h9, (List.drop_eq_getElem_cons hil).trans (by rw [(List.getElem?_eq_some_iff.1 hx).2]), weighK, hq, Int.toNat_natCast] at hK
      obtain ⟨M, hM⟩ : ∃ M, M = weighM s.nodes d q kn' := ⟨_, rfl⟩
      rw [← hM] at hI hK w1 w2 w3 w4 w5
      clear ih hM
      have hww : IntKind.i64.wrap (m + M.1) = m + M.1 := wrap64_id (by omega) (by omega)
      have hkl2 : (rA iPV M.2).length = s.nodes.length := by rw [rA_len, w1]
      simp only [ST.av_eq, scells_mk, List.map_cons, List.map_nil] at hI
      refine walkBF (And.intro hxp (And.intro @fcells_mk (And.intro @len_cells (And.intro @take_cells (And.intro @take_cellsC (And.intro hnp (And.intro @ncells_mk (And.intro e9 (And.intro hkl' hq))))))))) ?_
      ((refine AO.step fun K hK => ?_; simp only [go_sem, Int.reduceBEq, Int.reduceLE, Int.reduceLT, Int.reduceNeg, Nat.reduceAdd, Nat.reduceEqDiff, Nat.reduceLT, Nat.reduceLeDiff, Nat.reduceMul, Nat.reduceSub, reduceCtorEq, ↓reduceIte, hkl', hq, rA_ren]; (first | refine gsel_go ?_ | skip)); refine .inr (.inr (.inl ⟨?vy1, [1000000], ?va1, ?vl1, ?vm1, ?cond1, ?cont1⟩)); (case cond1 => ((repeat' apply And.intro) <;> (try ((with_reducible show ToldM _ _ _ _ _ _); exact hI))); (all_goals first | trivial | (simp only [hkl', hq, rA_ren, go_sem, simprocAttr]; done) | (simp; done) | rfl)); (first | refine hK _ _ _ ?_ | (simp only [hkl', hq, rA_ren, go_sem, simprocAttr]; first | refine hK _ _ _ ?_ | refine ⟨rfl, hK _ _ _ ?_⟩)); clear hK K)
      refine walkGF (And.intro hww (And.intro hw hkl2)) ?_
      refine .next ⟨(i + 1, (min (m + M.1) 1001, M.2)), by simp only []; omega, w1, w2, by simp only []; omega, by simp only []; omega, by simp only []; omega, by simp only []; rw [if_pos h9]; exact hK⟩ ?_ (by simp only []; omega)
      simp only [rA_len, rA_sc, rA_ren, w1, Weak, eq_self, used_is, sc_any, sc_c, sc_pp, sc_ref, sc_row, sc_agg, sc_fn, ScL, some_imp, List.forall_mem_map, go_sem, Int.reduceBEq, Int.reduceLE, Int.reduceLT, Int.reduceNeg, Nat.reduceAdd, Nat.reduceEqDiff, Nat.reduceLT, Nat.reduceLeDiff, Nat.reduceMul, Nat.reduceSub, reduceCtorEq, ↓reduceIte]
      exact ⟨cI (by omega), Nat.le_refl _⟩
    · have e9 : (n.kind == 9) = false := by simpa using h9
      rw [if_neg h9] at hK
      refine walkBF (And.intro hxp (And.intro @fcells_mk (And.intro @len_cells (And.intro @take_cells (And.intro @take_cellsC (And.intro hnp (And.intro @ncells_mk (And.intro e9 hw)))))))) ?_
      refine .next ⟨(i + 1, (m, kn')), by simp only []; omega, hk', hko', hc', hm1, hm2, by simp only []; rw [if_neg h9]; exact hK⟩ ?_ (by simp only []; omega)
      simp only [rA_len, rA_sc, hk', Weak, eq_self, used_is, sc_any, sc_c, sc_pp, sc_ref, sc_row, sc_agg, sc_fn, ScL, some_imp, List.forall_mem_map, go_sem, Int.reduceBEq, Int.reduceLE, Int.reduceLT, Int.reduceNeg, Nat.reduceAdd, Nat.reduceEqDiff, Nat.reduceLT, Nat.reduceLeDiff, Nat.reduceMul, Nat.reduceSub, reduceCtorEq, ↓reduceIte]
      exact ⟨cI (by omega), Nat.le_refl _⟩
  · have hie : i = n.fields.length := by simp at hc2; omega
    have hf : K0 = (m, kn') := by
      rw [← hK]
      split
      · rw [hie, List.drop_length, weighK]
      · rfl
    subst hf
    have hset : (rA iPV kn').set p [.c (.v (.int .i64 m))] = rA iPV (kn'.set p m) := rA_set kn' p m
    obtain ⟨u, hu⟩ : ∃ u, kn'[p]? = some u := ⟨kn'[p]'(by omega), List.getElem?_eq_getElem (by omega)⟩
    have hup : (rA iPV kn')[p]? = some [.c (.v (.int .i64 u))] := rA_at hu
    refine walkGF (And.intro hkl' (And.intro hup hset)) ?_
    refine ⟨by first | exact .inr rfl | exact .inl rfl, ?_⟩; rw [Tryz.results97]; simp only [rA_ren, resOk, resV, go_sem, Int.reduceBEq, Int.reduceLE, Int.reduceLT, Int.reduceNeg, Nat.reduceAdd, Nat.reduceEqDiff, Nat.reduceLT, Nat.reduceLeDiff, Nat.reduceMul, Nat.reduceSub, reduceCtorEq, ↓reduceIte]
    exact .c _
end

def foldW (g : Nat → Int) : List FT → Int → Int
  | [], n => n
  | x :: xs, n => foldW g xs (min (n + g x.type.toNat) 1001)
def omg (ns : List NT) : Nat → Nat → Int
  | 0, _ => 1001
  | d + 1, p => foldW (omg ns d) (fieldsAt ns p) 1
theorem foldW_mono {g h : Nat → Int} (hgh : ∀ q, g q ≤ h q) : ∀ (xs : List FT) (n m : Int), n ≤ m → foldW g xs n ≤ foldW h xs m
  | [], n, m, h => h
  | x :: xs, n, m, h => by
    rw [foldW, foldW]
    have := hgh x.type.toNat
    exact foldW_mono hgh xs _ _ (by omega)
theorem foldW_le {g : Nat → Int} : ∀ (xs : List FT) (n : Int), n ≤ 1001 → foldW g xs n ≤ 1001
  | [], n, h => h
  | x :: xs, n, h => by
    rw [foldW]
    exact foldW_le xs _ (by omega)
theorem foldW_ge {g : Nat → Int} (hg : ∀ q, 1 ≤ g q) : ∀ (xs : List FT) (n : Int), n ≤ 1001 → n ≤ foldW g xs n
  | [], n, h => Int.le_refl _
  | x :: xs, n, h => by
    rw [foldW]
    have h1 := hg x.type.toNat
    have := foldW_ge hg xs (min (n + g x.type.toNat) 1001) (by omega)
    omega
theorem foldW_top {g : Nat → Int} (hg : ∀ q, 1 ≤ g q) : ∀ (xs : List FT) (n : Int), 1 ≤ n → n ≤ 1001 → (∃ x ∈ xs, g x.type.toNat = 1001) → foldW g xs n = 1001
  | [], n, _, h, hx => by obtain ⟨x, hx, _⟩ := hx; simp at hx
  | x :: xs, n, h1, h, hx => by
    rw [foldW]
    have hgx := hg x.type.toNat
    by_cases he : g x.type.toNat = 1001
    · have hm : min (n + g x.type.toNat) 1001 = 1001 := by omega
      rw [hm]
      have a := foldW_ge hg xs 1001 (by omega)
      have b := foldW_le (g := g) xs 1001 (by omega)
      omega
    · obtain ⟨y, hy, hy2⟩ := hx
      rcases List.mem_cons.1 hy with rfl | hy
      · exact absurd hy2 he
      · exact foldW_top hg xs _ (by omega) (by omega) ⟨y, hy, hy2⟩
theorem foldW_congr {g h : Nat → Int} : ∀ (xs : List FT) (n : Int), (∀ x ∈ xs, g x.type.toNat = h x.type.toNat) → foldW g xs n = foldW h xs n
  | [], n, _ => rfl
  | x :: xs, n, e => by
    rw [foldW, foldW, e x (by simp)]
    exact foldW_congr xs _ fun y hy => e y (by simp [hy])
theorem omg_range (ns : List NT) : ∀ (d p : Nat), 1 ≤ omg ns d p ∧ omg ns d p ≤ 1001
  | 0, p => ⟨by rw [omg]; decide, by rw [omg]; decide⟩
  | d + 1, p => by
    rw [omg]
    exact ⟨foldW_ge (fun q => (omg_range ns d q).1) _ _ (by decide), foldW_le _ _ (by decide)⟩
theorem omg_dec (ns : List NT) : ∀ (d p : Nat), omg ns (d + 1) p ≤ omg ns d p
  | 0, p => by rw [omg.eq_1]; exact (omg_range ns 1 p).2
  | d + 1, p => by
    rw [omg, omg]
    exact foldW_mono (omg_dec ns d) _ _ _ (Int.le_refl _)
theorem omg_anti (ns : List NT) (d p : Nat) : ∀ e, omg ns (d + e) p ≤ omg ns d p
  | 0 => Int.le_refl _
  | e + 1 => Int.le_trans (omg_dec ns (d + e) p) (omg_anti ns d p e)
theorem omg_one (ns : List NT) (p : Nat) : ∀ (b d : Nat), omg ns d p ≤ (b : Int) → ∃ D, ∀ e, omg ns (D + e) p = omg ns D p
  | 0, d, h => by have := (omg_range ns d p).1; omega
  | b + 1, d, h => by
    by_cases hs : ∀ e, omg ns (d + e) p = omg ns d p
    · exact ⟨d, hs⟩
    · obtain ⟨e, he⟩ := Classical.not_forall.1 hs
      have := omg_anti ns d p e
      exact omg_one ns p b (d + e) (by omega)
theorem omg_all (ns : List NT) : ∀ N : Nat, ∃ D, ∀ p, p < N → ∀ e, omg ns (D + e) p = omg ns D p
  | 0 => ⟨0, fun p h => by omega⟩
  | N + 1 => by
    obtain ⟨D1, h1⟩ := omg_all ns N
    obtain ⟨D2, h2⟩ := omg_one ns N 1001 0 (by rw [omg]; decide)
    refine ⟨max D1 D2, fun p hp e => ?_⟩
    by_cases hpN : p < N
    · have a := h1 p hpN (max D1 D2 - D1 + e)
      have b := h1 p hpN (max D1 D2 - D1)
      rw [show D1 + (max D1 D2 - D1 + e) = max D1 D2 + e by omega] at a
      rw [show D1 + (max D1 D2 - D1) = max D1 D2 by omega] at b
      rw [a, b]
    · obtain rfl : p = N := by omega
      have a := h2 (max D1 D2 - D2 + e)
      have b := h2 (max D1 D2 - D2)
      rw [show D2 + (max D1 D2 - D2 + e) = max D1 D2 + e by omega] at a
      rw [show D2 + (max D1 D2 - D2) = max D1 D2 by omega] at b
      rw [a, b]
structure IsG (ns : List NT) (G : Nat → Int) : Prop where
  range : ∀ p, 1 ≤ G p ∧ G p ≤ 1001
  fix : ∀ p, p < ns.length → G p = foldW G (fieldsAt ns p) 1
  top : ∀ S : Nat → Prop, (∀ q, S q → ∃ x ∈ fieldsAt ns q, S x.type.toNat) → ∀ q, S q → G q = 1001
theorem omg_top (ns : List NT) (S : Nat → Prop) (hS : ∀ q, S q → ∃ x ∈ fieldsAt ns q, S x.type.toNat) : ∀ (d q : Nat), S q → omg ns d q = 1001
  | 0, q, _ => by rw [omg]
  | d + 1, q, h => by
    rw [omg]
    obtain ⟨x, hx, hx2⟩ := hS q h
    exact foldW_top (fun q => (omg_range ns d q).1) _ _ (by decide) (by decide) ⟨x, hx, omg_top ns S hS d _ hx2⟩
theorem exG (ns : List NT) (hr : ∀ p, ∀ x ∈ fieldsAt ns p, x.type.toNat < ns.length) : ∃ G, IsG ns G := by
  obtain ⟨D, hD⟩ := omg_all ns ns.length
  refine ⟨omg ns D, fun p => omg_range ns D p, fun p hp => ?_, fun S hS q hq => omg_top ns S hS D q hq⟩
  have h := hD p hp 1
  rw [← h, omg]
def Edge (ns : List NT) (p q : Nat) : Prop := ∃ x ∈ fieldsAt ns p, x.type.toNat = q
inductive Way (ns : List NT) : Nat → Nat → Prop
  | one {p q : Nat} (h : Edge ns p q) : Way ns p q
  | step {p q r : Nat} (h : Edge ns p q) (w : Way ns q r) : Way ns p r
theorem Way.tail {ns : List NT} {p q r : Nat} (w : Way ns p q) (h : Edge ns q r) : Way ns p r := by
  induction w with
  | one h1 => exact .step h1 (.one h)
  | step h1 _ ih => exact .step h1 (ih h)
theorem IsG.cyc {ns : List NT} {G : Nat → Int} (h : IsG ns G) {p : Nat} (hp : Way ns p p) : G p = 1001 := by
  refine h.top (fun q => Way ns q p) (fun q hq => ?_) p hp
  cases hq with
  | one h1 =>
    obtain ⟨x, hx, he⟩ := h1
    exact ⟨x, hx, by rw [he]; exact hp⟩
  | step h1 w =>
    obtain ⟨x, hx, he⟩ := h1
    exact ⟨x, hx, by rw [he]; exact w⟩
structure Memo (ns : List NT) (G : Nat → Int) (kn : List Int) (p : Nat) : Prop where
  len : kn.length = ns.length
  ok : KnOk kn
  pos : ∀ (j : Nat) (v : Int), kn[j]? = some v → 0 < v → v = G j
  neg : ∀ (j : Nat) (v : Int), kn[j]? = some v → v < 0 → Way ns j p
structure Kept (ns : List NT) (G : Nat → Int) (kn kn' : List Int) : Prop where
  len : kn'.length = ns.length
  ok : KnOk kn'
  pos : ∀ (j : Nat) (v : Int), kn'[j]? = some v → 0 < v → v = G j
  neg : ∀ (j : Nat) (v : Int), kn'[j]? = some v → v < 0 → ∃ u, kn[j]? = some u ∧ u < 0
  cnt : kn'.count 0 ≤ kn.count 0
theorem weighK_spec {ns : List NT} {G : Nat → Int} (hG : IsG ns G) (f : Nat → List Int → Int × List Int) (p : Nat) (c : Nat)
    (hf : ∀ (q : Nat) (kn : List Int), q < ns.length → Memo ns G kn q → kn.count 0 < c → (f q kn).1 = G q ∧ Kept ns G kn (f q kn).2) :
    ∀ (xs : List FT) (n : Int) (kn0 kn : List Int), (∀ x ∈ xs, x.type.toNat < ns.length ∧ Edge ns p x.type.toNat) → Kept ns G kn0 kn → (∀ (j : Nat) (v : Int), kn0[j]? = some v → v < 0 → j = p ∨ Way ns j p) → kn0.count 0 < c →
      (weighK f xs n kn).1 = foldW G xs n ∧ Kept ns G kn0 (weighK f xs n kn).2
  | [], n, kn0, kn, _, hk, _, _ => ⟨rfl, hk⟩
  | x :: xs, n, kn0, kn, hx, hk, hn, hc => by
    rw [weighK, foldW]
    obtain ⟨hxl, hxe⟩ := hx x (by simp)
    have hm : Memo ns G kn x.type.toNat := ⟨hk.len, hk.ok, hk.pos, fun j v hj hv => by
      obtain ⟨u, hu, hu0⟩ := hk.neg j v hj hv
      rcases hn j u hu hu0 with rfl | w
      · exact .one hxe
      · exact w.tail hxe⟩
    obtain ⟨h1, h2⟩ := hf x.type.toNat kn hxl hm (by have := hk.cnt; omega)
    rw [h1]
    exact weighK_spec hG f p c hf xs _ kn0 _ (fun y hy => hx y (by simp [hy])) ⟨h2.len, h2.ok, h2.pos, fun j v hj hv => by
      obtain ⟨u, hu, hu0⟩ := h2.neg j v hj hv
      exact hk.neg j u hu hu0, by have := hk.cnt; have := h2.cnt; omega⟩ hn hc
theorem set_get {kn : List Int} {p j : Nat} {v w : Int} (h : (kn.set p w)[j]? = some v) : (j = p ∧ v = w) ∨ (j ≠ p ∧ kn[j]? = some v) := by
  rw [List.getElem?_set] at h
  split at h
  · rename_i hp
    split at h
    · exact .inl ⟨hp.symm, (Option.some.inj h).symm⟩
    · simp at h
  · rename_i hp
    exact .inr ⟨fun e => hp e.symm, h⟩
theorem weighM_spec {ns : List NT} {G : Nat → Int} (hG : IsG ns G) (hr : ∀ p, ∀ x ∈ fieldsAt ns p, x.type.toNat < ns.length) : ∀ (d p : Nat) (kn : List Int), p < ns.length → Memo ns G kn p → kn.count 0 < d → (weighM ns d p kn).1 = G p ∧ Kept ns G kn (weighM ns d p kn).2
  | 0, p, kn, _, _, h => by omega
  | d + 1, p, kn, hp, hm, hc => by
    obtain ⟨v, hv⟩ : ∃ v, kn[p]? = some v := ⟨kn[p]'(by rw [hm.len]; exact hp), List.getElem?_eq_getElem _⟩
    have hself : Kept ns G kn kn := ⟨hm.len, hm.ok, hm.pos, fun j u hj hu => ⟨u, hj, hu⟩, Nat.le_refl _⟩
    rw [weighM, knAt_of hv]
    split
    · rename_i h0
      exact ⟨(hG.cyc (hm.neg p v hv h0)).symm, hself⟩
    · split
      · rename_i h0 h1
        exact ⟨hm.pos p v hv h1, hself⟩
      · rename_i h0 h1
        obtain rfl : v = 0 := by omega
        have hct := count_set_lt (v := -1) hv (by decide)
        have hk1 : Kept ns G (kn.set p (-1)) (kn.set p (-1)) := ⟨by rw [List.length_set]; exact hm.len, hm.ok.set p (by decide), fun j u hj hu => by
          rcases set_get hj with ⟨_, rfl⟩ | ⟨_, h⟩
          · omega
          · exact hm.pos j u h hu, fun j u hj hu => ⟨u, hj, hu⟩, Nat.le_refl _⟩
        obtain ⟨h2, h3⟩ := weighK_spec hG (weighM ns d) p d (fun q kn hq hmq hcq => weighM_spec hG hr d q kn hq hmq hcq) (fieldsAt ns p) 1 (kn.set p (-1)) (kn.set p (-1)) (fun x hx => ⟨hr p x hx, x, hx, rfl⟩) hk1 (fun j u hj hu => by
          rcases set_get hj with ⟨e, _⟩ | ⟨_, h⟩
          · exact .inl e
          · exact .inr (hm.neg j u h hu)) (by omega)
        simp only []
        rw [h2, ← hG.fix p hp]
        have hGp := hG.range p
        have c2 := count_set_le (kn := (weighK (weighM ns d) (fieldsAt ns p) 1 (kn.set p (-1))).2) p (v := G p) (by omega)
        refine ⟨rfl, by rw [List.length_set]; exact h3.len, h3.ok.set p (by omega), fun j u hj hu => ?_, fun j u hj hu => ?_, by have := h3.cnt; omega⟩
        · rcases set_get hj with ⟨rfl, rfl⟩ | ⟨_, h⟩
          · rfl
          · exact h3.pos j u h hu
        · rcases set_get hj with ⟨_, rfl⟩ | ⟨hne, h⟩
          · omega
          · obtain ⟨w, hw, hw0⟩ := h3.neg j u h hu
            rcases set_get hw with ⟨e, _⟩ | ⟨_, h'⟩
            · exact absurd e hne
            · exact ⟨w, h', hw0⟩
theorem memo_none {ns : List NT} {G : Nat → Int} {kn : List Int} (h1 : kn.length = ns.length) (h2 : KnOk kn) (h3 : ∀ (j : Nat) (v : Int), kn[j]? = some v → 0 < v → v = G j) (h4 : ∀ (j : Nat) (v : Int), kn[j]? = some v → ¬ v < 0) (p : Nat) : Memo ns G kn p :=
  ⟨h1, h2, h3, fun j v hj hv => absurd hv (h4 j v hj)⟩

/-! Names by their last dot. -/
def sp1 : List UInt8 → List UInt8 × List (List UInt8)
  | [] => ([], [])
  | c :: cs => if c = 46 then ([], (sp1 cs).1 :: (sp1 cs).2) else (c :: (sp1 cs).1, (sp1 cs).2)
def okF (s : List UInt8) : Bool := simp1 (sp1 s).1 && (sp1 s).2.all simp1
theorem sp1_none : ∀ t : List UInt8, 46 ∉ t → sp1 t = (t, [])
  | [], _ => rfl
  | c :: cs, h => by
    have hc : c ≠ 46 := fun e => h (e ▸ List.mem_cons_self)
    rw [sp1, if_neg hc, sp1_none cs fun hm => h (List.mem_cons_of_mem _ hm)]
theorem sp1_dot {t : List UInt8} (ht : 46 ∉ t) : ∀ s : List UInt8, sp1 (s ++ 46 :: t) = ((sp1 s).1, (sp1 s).2 ++ [t])
  | [] => by
    have e : sp1 (46 :: t) = ([], (sp1 t).1 :: (sp1 t).2) := by rw [sp1.eq_2, if_pos rfl]
    rw [List.nil_append, e, sp1_none t ht]
    rfl
  | c :: cs => by
    rw [List.cons_append, sp1, sp1, sp1_dot ht cs]
    split
    · rfl
    · rfl
theorem okF_none {t : List UInt8} (h : 46 ∉ t) : okF t = simp1 t := by
  rw [okF, sp1_none t h]
  simp
theorem okF_dot {t : List UInt8} (ht : 46 ∉ t) (s : List UInt8) : okF (s ++ 46 :: t) = (okF s && simp1 t) := by
  rw [okF, sp1_dot ht, okF]
  simp [List.all_append, Bool.and_assoc]
theorem sp1_take : ∀ s : List UInt8, (sp1 s).1 = s.takeWhile (· != 46) ∧ (sp1 s).2 = match s.dropWhile (· != 46) with | [] => [] | _ :: r => (sp1 r).1 :: (sp1 r).2
  | [] => ⟨rfl, rfl⟩
  | c :: cs => by
    obtain ⟨h1, h2⟩ := sp1_take cs
    by_cases h : c = 46
    · subst h
      exact ⟨by simp [sp1], by simp [sp1]⟩
    · have hb : (c != 46) = true := by simp [h]
      rw [sp1, if_neg h, List.takeWhile_cons, List.dropWhile_cons, if_pos hb, if_pos hb]
      exact ⟨by rw [h1], h2⟩
theorem fullF_ok : ∀ (n : Nat) (s : List UInt8), s.length < n → fullF n s = okF s
  | 0, _, h => by omega
  | n + 1, s, h => by
    obtain ⟨h1, h2⟩ := sp1_take s
    rw [fullF, okF, h1, h2]
    congr 1
    have hd : (s.dropWhile (· != 46)).length ≤ s.length := (List.dropWhile_sublist _).length_le
    cases hr : s.dropWhile (· != 46) with
    | nil => rfl
    | cons x r =>
      rw [hr] at hd
      simp at hd
      simp only []
      rw [fullF_ok n r (by omega), List.all_cons]
      rfl
theorem fullM_ok (s : List UInt8) : fullM s = (decide (s.length ≤ 100) && okF s) := by rw [fullM, fullF_ok _ s (by omega)]
def dotA : Nat → Int → List UInt8 → Int
  | _, a, [] => a
  | i, a, c :: cs => dotA (i + 1) (if c = 46 then (i : Int) else a) cs
def dotI (s : List UInt8) : Int := dotA 0 (-1) s
theorem dotA_spec : ∀ (l : List UInt8) (i : Nat) (a : Int), (46 ∉ l ∧ dotA i a l = a) ∨ ∃ j : Nat, j < l.length ∧ l[j]? = some 46 ∧ 46 ∉ l.drop (j + 1) ∧ dotA i a l = ((i + j : Nat) : Int)
  | [], i, a => .inl ⟨by simp, rfl⟩
  | c :: cs, i, a => by
    rw [dotA]
    rcases dotA_spec cs (i + 1) (if c = 46 then (i : Int) else a) with ⟨h1, h2⟩ | ⟨j, h0, h1, h2, h3⟩
    · by_cases hc : c = 46
      · rw [if_pos hc] at h2 ⊢
        exact .inr ⟨0, by simp, by simp [hc], by simpa using h1, by rw [h2]; simp⟩
      · rw [if_neg hc] at h2 ⊢
        refine .inl ⟨?_, h2⟩
        intro hm
        rcases List.mem_cons.1 hm with e | hm
        · exact hc e.symm
        · exact h1 hm
    · exact .inr ⟨j + 1, by simp; omega, by simpa using h1, by simpa using h2, by rw [h3]; congr 1; omega⟩
theorem dotI_spec (l : List UInt8) : (46 ∉ l ∧ dotI l = -1) ∨ ∃ j : Nat, j < l.length ∧ dotI l = (j : Int) ∧ l = l.take j ++ 46 :: l.drop (j + 1) ∧ 46 ∉ l.drop (j + 1) := by
  rcases dotA_spec l 0 (-1) with h | ⟨j, h0, h1, h2, h3⟩
  · exact .inl h
  · refine .inr ⟨j, h0, by rw [dotI, h3]; simp, ?_, h2⟩
    obtain ⟨hlt, he⟩ := List.getElem?_eq_some_iff.1 h1
    conv => lhs; rw [← List.take_append_drop j l, List.drop_eq_getElem_cons hlt, he]
/-! Nodes that are met. -/
def metM (ns : List NT) (d p : Nat) : Int := if (walkM ns d p).1 = true then ((walkM ns d p).2 : Int) else -1
/-! Weights by rounds. -/
def wAt (l : List Int) (q : Nat) : Int := match l[q]? with | some n => n | none => 1
theorem wAt_of {l : List Int} {p : Nat} {v : Int} (h : l[p]? = some v) : wAt l p = v := by rw [wAt, h]
def wstep (ns : List NT) (l : List Int) : List Int := (List.range ns.length).map fun p => foldW (wAt l) (fieldsAt ns p) 1
def WOk (ns : List NT) (l : List Int) : Prop := l.length = ns.length ∧ (∀ x ∈ l, 1 ≤ x ∧ x ≤ 1001) ∧ ∀ p, p < ns.length → wAt l p ≤ foldW (wAt l) (fieldsAt ns p) 1
theorem wstep_at {ns : List NT} {l : List Int} {p : Nat} (h : p < ns.length) : (wstep ns l)[p]? = some (foldW (wAt l) (fieldsAt ns p) 1) := by
  unfold wstep
  rw [List.getElem?_map, List.getElem?_range h]
  rfl
theorem wAt_step {ns : List NT} {l : List Int} {p : Nat} (h : p < ns.length) : wAt (wstep ns l) p = foldW (wAt l) (fieldsAt ns p) 1 := wAt_of (wstep_at h)
theorem wAt_range {l : List Int} (h : ∀ x ∈ l, 1 ≤ x ∧ x ≤ 1001) (q : Nat) : 1 ≤ wAt l q ∧ wAt l q ≤ 1001 := by
  unfold wAt
  split
  · rename_i n hn
    exact h n (List.mem_of_getElem? hn)
  · exact ⟨by decide, by decide⟩
theorem wok_one (ns : List NT) : WOk ns (List.replicate ns.length 1) := by
  have hr : ∀ x ∈ List.replicate ns.length (1 : Int), 1 ≤ x ∧ x ≤ 1001 := fun x hx => by
    obtain rfl := (List.mem_replicate.1 hx).2
    exact ⟨by decide, by decide⟩
  refine ⟨by simp, hr, fun p hp => ?_⟩
  have : wAt (List.replicate ns.length 1) p = 1 := wAt_of (by rw [List.getElem?_replicate, if_pos hp])
  rw [this]
  exact foldW_ge (fun q => (wAt_range hr q).1) _ _ (by decide)
theorem wok_step {ns : List NT} {l : List Int} (h : WOk ns l) : WOk ns (wstep ns l) := by
  obtain ⟨h1, h2, h3⟩ := h
  have hr : ∀ x ∈ wstep ns l, 1 ≤ x ∧ x ≤ 1001 := fun x hx => by
    unfold wstep at hx
    obtain ⟨p, _, rfl⟩ := List.mem_map.1 hx
    exact ⟨foldW_ge (fun q => (wAt_range h2 q).1) _ _ (by decide), foldW_le _ _ (by decide)⟩
  refine ⟨by simp [wstep], hr, fun p hp => ?_⟩
  rw [wAt_step hp]
  refine foldW_mono (fun q => ?_) _ _ _ (Int.le_refl _)
  by_cases hq : q < ns.length
  · rw [wAt_step hq]
    exact h3 q hq
  · have e1 : wAt l q = 1 := by rw [wAt, List.getElem?_eq_none (by omega)]
    have e2 : wAt (wstep ns l) q = 1 := by rw [wAt, List.getElem?_eq_none (by simp [wstep]; omega)]
    omega
def wlack : List Int → Nat
  | [] => 0
  | x :: xs => (1001 - x).toNat + wlack xs
theorem wlack_le : ∀ (l l' : List Int), l.length = l'.length → (∀ p, wAt l p ≤ wAt l' p) → wlack l' ≤ wlack l
  | [], [], _, _ => Nat.le_refl _
  | x :: xs, y :: ys, hl, h => by
    have h0 := h 0
    have := wlack_le xs ys (by simpa using hl) fun p => h (p + 1)
    simp [wAt] at h0
    simp only [wlack]
    omega
theorem wlack_lt : ∀ (l l' : List Int), l.length = l'.length → (∀ p, wAt l p ≤ wAt l' p) → (∀ x ∈ l', x ≤ 1001) → l ≠ l' → wlack l' < wlack l
  | [], [], _, _, _, h => absurd rfl h
  | x :: xs, y :: ys, hl, h, hb, hne => by
    have h0 := h 0
    have hy := hb y (by simp)
    have hle := wlack_le xs ys (by simpa using hl) fun p => h (p + 1)
    simp [wAt] at h0
    simp only [wlack]
    by_cases hx : x = y
    · have := wlack_lt xs ys (by simpa using hl) (fun p => h (p + 1)) (fun z hz => hb z (by simp [hz])) fun e => hne (by rw [hx, e])
      omega
    · omega
theorem wstep_lack {ns : List NT} {l : List Int} (h : WOk ns l) (hne : wstep ns l ≠ l) : wlack (wstep ns l) < wlack l := by
  refine wlack_lt l _ (by simp [wstep, h.1]) (fun p => ?_) (fun x hx => ((wok_step h).2.1 x hx).2) fun e => hne e.symm
  by_cases hp : p < ns.length
  · rw [wAt_step hp]
    exact h.2.2 p hp
  · rw [wAt, List.getElem?_eq_none (by have := h.1; omega), wAt, List.getElem?_eq_none (by simp [wstep]; omega)]
    exact Int.le_refl _
theorem foldW_lt {g : Nat → Int} (hg : ∀ q, 1 ≤ g q) : ∀ (xs : List FT) (n : Int), 1 ≤ n → n ≤ 1001 → foldW g xs n < 1001 → ∀ x ∈ xs, g x.type.toNat < foldW g xs n
  | [], n, _, _, _, x, hx => by simp at hx
  | y :: ys, n, h1, h2, h, x, hx => by
    rw [foldW] at h ⊢
    have hgy := hg y.type.toNat
    rcases List.mem_cons.1 hx with rfl | hx
    · have := foldW_ge hg ys (min (n + g x.type.toNat) 1001) (by omega)
      omega
    · exact foldW_lt hg ys _ (by omega) (by omega) h x hx
theorem fix_le {ns : List NT} {G H : Nat → Int} (hG : ∀ p, 1 ≤ G p ∧ G p ≤ 1001) (hH : ∀ p, 1 ≤ H p ∧ H p ≤ 1001) (fG : ∀ p, p < ns.length → G p = foldW G (fieldsAt ns p) 1) (fH : ∀ p, p < ns.length → H p = foldW H (fieldsAt ns p) 1)
    (hr : ∀ p, ∀ x ∈ fieldsAt ns p, x.type.toNat < ns.length) : ∀ (m : Nat) (p : Nat), p < ns.length → G p < 1001 → G p ≤ (m : Int) → H p = G p
  | 0, p, _, _, h => by have := (hG p).1; omega
  | m + 1, p, hp, h1, h2 => by
    rw [fG p hp] at h1 h2 ⊢
    rw [fH p hp]
    refine foldW_congr _ _ fun x hx => ?_
    have := foldW_lt (fun q => (hG q).1) (fieldsAt ns p) 1 (by decide) (by decide) h1 x hx
    exact fix_le hG hH fG fH hr m _ (hr p x hx) (by omega) (by omega)
theorem fix_one {ns : List NT} {G H : Nat → Int} (hG : ∀ p, 1 ≤ G p ∧ G p ≤ 1001) (hH : ∀ p, 1 ≤ H p ∧ H p ≤ 1001) (fG : ∀ p, p < ns.length → G p = foldW G (fieldsAt ns p) 1) (fH : ∀ p, p < ns.length → H p = foldW H (fieldsAt ns p) 1)
    (hr : ∀ p, ∀ x ∈ fieldsAt ns p, x.type.toNat < ns.length) (p : Nat) (hp : p < ns.length) : H p = G p := by
  by_cases h1 : G p < 1001
  · exact fix_le hG hH fG fH hr 1001 p hp h1 (hG p).2
  · by_cases h2 : H p < 1001
    · exact (fix_le hH hG fH fG hr 1001 p hp h2 (hH p).2).symm
    · have := (hG p).2
      have := (hH p).2
      omega
theorem wok_G {ns : List NT} {G : Nat → Int} {l : List Int} (hG : IsG ns G) (hr : ∀ p, ∀ x ∈ fieldsAt ns p, x.type.toNat < ns.length) (h : WOk ns l) (he : wstep ns l = l) (p : Nat) (hp : p < ns.length) : l[p]? = some (G p) := by
  have hlt : p < l.length := by rw [h.1]; exact hp
  have e : l[p]? = some (wAt l p) := by
    rw [List.getElem?_eq_getElem hlt]
    congr 1
    exact (wAt_of (List.getElem?_eq_getElem hlt)).symm
  rw [e]
  congr 1
  exact fix_one hG.range (fun q => wAt_range h.2.1 q) hG.fix (fun q hq => by rw [← wAt_step hq, he]) hr p hp
theorem rightL_eq {ns : List NT} {G : Nat → Int} (hG : IsG ns G) (hr : ∀ p, ∀ x ∈ fieldsAt ns p, x.type.toNat < ns.length) : ∀ (r : List NT) (p : Nat) (kn : List Int), p + r.length = ns.length → kn.length = ns.length → KnOk kn → (∀ (j : Nat) (v : Int), kn[j]? = some v → 0 < v → v = G j) → (∀ (j : Nat) (v : Int), kn[j]? = some v → ¬ v < 0) →
    (rightL ns r p kn = true ↔ (∀ n ∈ r, nodeM ns n = true) ∧ ∀ i, p ≤ i → i < ns.length → G i ≤ 1000)
  | [], p, kn, hl, _, _, _, _ => by
    simp at hl
    simp only [rightL, true_iff]
    exact ⟨by simp, fun i h1 h2 => by omega⟩
  | n :: r, p, kn, hl, h1, h2, h3, h4 => by
    rw [rightL]
    simp only [Bool.and_eq_true, decide_eq_true_eq]
    simp at hl
    have hc := List.count_le_length (a := (0 : Int)) (l := kn)
    obtain ⟨e, hk⟩ := weighM_spec hG hr (ns.length + 1) p kn (by omega) (memo_none h1 h2 h3 h4 p) (by omega)
    rw [e, rightL_eq hG hr r (p + 1) _ (by omega) hk.len hk.ok hk.pos (fun j v hj hv => by
        obtain ⟨u, hu, hu0⟩ := hk.neg j v hj hv
        exact h4 j u hu hu0)]
    constructor
    · rintro ⟨a, b, c, d⟩
      refine ⟨fun m hm => ?_, fun i hi hi2 => ?_⟩
      · rcases List.mem_cons.1 hm with rfl | hm
        · exact a
        · exact c m hm
      · by_cases hip : i = p
        · rw [hip]; exact b
        · exact d i (by omega) hi2
    · rintro ⟨a, b⟩
      exact ⟨a n (by simp), b p (Nat.le_refl _) (by omega), fun m hm => a m (by simp [hm]), fun i hi hi2 => b i (by omega) hi2⟩
theorem rightM_eq {s : ST} {G : Nat → Int} (hG : IsG s.nodes G) (hr : ∀ p, ∀ x ∈ fieldsAt s.nodes p, x.type.toNat < s.nodes.length) :
    rightM s = true ↔ orderedM s = true ∧ (∀ n ∈ s.nodes, nodeM s.nodes n = true) ∧ (∀ i, i < s.nodes.length → G i ≤ 1000) ∧ (namesM s.nodes).Nodup := by
  have hz : ∀ (j : Nat) (v : Int), (List.replicate s.nodes.length (0 : Int))[j]? = some v → v = 0 := fun j v hj => (List.mem_replicate.1 (List.mem_of_getElem? hj)).2
  have h := rightL_eq hG hr s.nodes 0 (List.replicate s.nodes.length 0) (by simp) (by simp) (fun x hx => by obtain rfl := (List.mem_replicate.1 hx).2; decide) (fun j v hj hv => by have := hz j v hj; omega) (fun j v hj => by have := hz j v hj; omega)
  unfold rightM diffM
  simp only [Bool.and_eq_true, decide_eq_true_eq, h, List.all_eq_true]
  constructor
  · rintro ⟨a, ⟨b, c⟩, d, e⟩
    exact ⟨a, b, fun i hi => c i (Nat.zero_le _) hi, e⟩
  · rintro ⟨a, b, c, d⟩
    refine ⟨a, ⟨b, fun i _ hi => c i hi⟩, fun x hx => ?_, d⟩
    obtain ⟨n, hn, rfl⟩ := List.mem_map.1 hx
    obtain ⟨hn1, hn2⟩ := List.mem_filter.1 hn
    have := b n hn1
    unfold nodeM at this
    simp only [Bool.and_eq_true] at this
    have h2 := this.2.1
    rw [hn2] at h2
    simp only [Bool.not_true, Bool.false_or, Bool.and_eq_true] at h2
    exact h2.1
section
attribute [local go_sem] opx opE ev okx gcond bnd okO AV.get AV.okb cAV upd_at putd_some putd_none wrs_nil wrs_cons look_nil look_cons st argT_at bpick_and bpick_or bpick_true bpick_false binV binI binS binVOk binOk isShift binSOk unV unVOk loadV loadP cellsA zeroA Blkd.len setE grown moreA moreR moreOk eqRes pv fillA fillE putSeg AV.cellish AV.pureL AV.pureB lentL_is ex_some AV.ren AV.renL renL_c Blkd.ren rho wrM renN lentOk rhoE keepM endOk tyA_2 tyA_3 tyA_4 tyA_5 tyA_6 tyA_7 tyA_8 tyA_9 tyA_10 tyA_11 tyA_12 tyA_13 tyA_14 tyA_15 tyA_16 tyA_17 tyA_18 tyA_19 tyA_21 tyA_22 tyA_23 tyA_24 tyA_29 tyA_30 tyA_31 tyA_32 tyA_33 tyA_34 tyA_35 tyA_36 tyA_37 tyA_38 tyA_39 tyA_40 tyA_41 tyA_42 tyA_43 tyA_48 tyA_89 tyA_93 tyA_107 tyA_108 tyA_109 tyA_113 tyA_114 tyA_115 tyA_116 tyA_117 tyA_119 tyA_120 tyA_121 tyA_122 tyA_131 tyA_134 tyA_135 tyA_136 tyA_137 tyA_138 tyA_154 tyA_156 tyA_157 tyA_158 tyA_159 tyA_170 tyA_180 tyA_181 tyA_182 tyA_196 tyA_202 tyA_208 tyA_209 tyA_210 tyA_211 tyA_212 tyA_213 tyA_229 tyA_230 tyA_231 tyA_241 tyA_264 tyA_268 tyA_293 tyA_294 tyA_295 tyA_311 tyA_313 tyA_321 tyA_326 tyA_334 tyA_338 tyA_340 tyA_343 tyA_344 tyA_345 tyA_346 tyA_347 tyA_348 tyA_349 tyA_351 tyA_352 Option.map_some Option.map_none Option.getD_some Option.getD_none Option.bind_some Option.bind_none List.getElem?_cons_zero List.getElem?_cons_succ List.getElem?_nil List.getElem?_toArray List.length_cons List.length_nil List.length_map List.forall_mem_map List.map_cons List.map_nil List.drop_zero List.drop_succ_cons List.drop_nil List.take_zero List.take_succ_cons List.take_nil List.mem_cons List.not_mem_nil or_false forall_eq_or_imp forall_eq List.set_cons_zero List.set_cons_succ List.cons_append List.nil_append List.append_nil List.foldl_cons List.foldl_nil List.replicate_succ List.replicate_zero List.all_cons List.all_nil if_true if_false Bool.false_eq_true ne_eq not_false_eq_true not_true_eq_false true_and and_true and_self true_implies imp_self implies_true forall_const beq_self_eq_true Bool.and_true Bool.true_and Bool.and_false Bool.false_and Bool.or_true Bool.true_or Bool.or_false Bool.false_or Bool.not_true Bool.not_false Bool.not_eq_eq_eq_not intKindOf Value.oneCell' Int.toNat_natCast beq_true beq_false Bool.not_eq_true false_implies false_or true_or or_true Nat.zero_add Nat.add_zero decide_true decide_false Int.cast_ofNat_Int Int.toNat_zero Int.toNat_one eq_self

set_option maxRecDepth 100000 in
set_option maxHeartbeats 800000 in
theorem rletter9_told (c : UInt8) : Told Tryz.prog 287 [.c (.v (.int .u8 (c.toNat : Int)))] (.c (.v (.bool (isLet c)))) := by
  obtain ⟨V, hV⟩ : ∃ V, V = isLet c := ⟨_, rfl⟩
  rw [← hV]
  obtain ⟨y, hy⟩ : ∃ y : Int, y = (c.toNat : Int) := ⟨_, rfl⟩
  rw [← hy]
  have hv : V = ((decide (y ≥ 97) && decide (y ≤ 122)) || ((decide (y ≥ 65) && decide (y ≤ 90)) || (y == 95))) := by
    have e : (y == 95) = decide (c.toNat = 95) := by
      rw [hy]
      by_cases h : c.toNat = 95
      · simp [h]
      · have : ¬ ((c.toNat : Int) = 95) := by omega
        simp [h, this]
    rw [hV, isLet, e, hy]
    congr 1
    · congr 1 <;> simp <;> omega
    · congr 1
      congr 1 <;> simp <;> omega
  clear hV hy
  replace hv := Lib.hid hv
  refine VC.told ent_287 Tryz.func287 rfl Tryz.ntmps287 (by simp) (by first | rfl | simp [AV.pureB, AV.pureL, pureL_c, pures]) (by first | rfl | simp [AV.pureB, AV.pureL, pureL_c, pures]) fun hb => ?_
  clear hb
  (repeat (first | refine pass ?_ | refine VC.region (by rfl) (by rfl) ?_ | (refine AO.step fun K hK => ?_; simp only [List.append_assoc, go_sem, Int.reduceBEq, Int.reduceLE, Int.reduceLT, Int.reduceNeg, Nat.reduceAdd, Nat.reduceEqDiff, Nat.reduceLT, Nat.reduceLeDiff, Nat.reduceMul, Nat.reduceSub, reduceCtorEq, ↓reduceIte]; (first | refine gsel_skip ?_ | refine gsel_go ?_ | skip); (first | refine hK _ _ _ ?_ | refine ⟨by first | omega | exact ⟨_, rfl, rfl⟩ | exact fun _ => ⟨_, rfl, rfl⟩ | (intro h; simp only [List.append_assoc, h, true_and]; omega) | (clear hK; intro h; simp_all <;> omega), hK _ _ _ ?_⟩); clear hK K) | refine VC.draw mixP (by rfl) (by rfl) ?_ | refine ⟨okd_of (by kernel_rfl), ?_⟩ | refine BQ.other (by decide) ?_ | refine VC.seq ?_ | refine AO.nil ?_ | refine VC.block ?_))
  refine ⟨by first | exact .inr rfl | exact .inl rfl, ?_⟩; rw [Tryz.results287]; simp only [resOk, resV, go_sem, Int.reduceBEq, Int.reduceLE, Int.reduceLT, Int.reduceNeg, Nat.reduceAdd, Nat.reduceEqDiff, Nat.reduceLT, Nat.reduceLeDiff, Nat.reduceMul, Nat.reduceSub, reduceCtorEq, ↓reduceIte]
  have hv2 : V = ((decide (y ≥ 97) && decide (y ≤ 122)) || (decide (y ≥ 65) && decide (y ≤ 90)) || (y == 95)) := by rw [hv.out, Bool.or_assoc]
  rw [hv2]
  exact .c _
set_option maxRecDepth 100000 in
set_option maxHeartbeats 800000 in
theorem rdigit9_told (c : UInt8) : Told Tryz.prog 288 [.c (.v (.int .u8 (c.toNat : Int)))] (.c (.v (.bool (isDig c)))) := by
  have e : isDig c = (decide ((c.toNat : Int) ≥ 48) && decide ((c.toNat : Int) ≤ 57)) := by
    unfold isDig
    congr 1 <;> simp <;> omega
  rw [e]
  refine VC.told ent_288 Tryz.func288 rfl Tryz.ntmps288 (by simp) (by first | rfl | simp [AV.pureB, AV.pureL, pureL_c, pures]) (by first | rfl | simp [AV.pureB, AV.pureL, pureL_c, pures]) fun hb => ?_
  clear hb
  refine walkG ?_
  refine ⟨by first | exact .inr rfl | exact .inl rfl, ?_⟩; rw [Tryz.results288]; simp only [resOk, resV, go_sem, Int.reduceBEq, Int.reduceLE, Int.reduceLT, Int.reduceNeg, Nat.reduceAdd, Nat.reduceEqDiff, Nat.reduceLT, Nat.reduceLeDiff, Nat.reduceMul, Nat.reduceSub, reduceCtorEq, ↓reduceIte]
  exact .c _
set_option maxRecDepth 100000 in
set_option maxHeartbeats 800000 in
theorem rsimple_told (s : List UInt8) (hs : s.length ≤ 1000000000) : Told Tryz.prog 258 [.c (.v (.string (str s)))] (.c (.v (.bool (simpleM s)))) := by
  obtain ⟨V, hV⟩ : ∃ V, V = simpleM s := ⟨_, rfl⟩
  rw [← hV]
  cases s with
  | nil =>
    obtain rfl : V = false := by rw [hV]; rfl
    refine VC.told ent_258 Tryz.func258 rfl Tryz.ntmps258 (by simp) (by first | rfl | simp [AV.pureB, AV.pureL, pureL_c, pures]) (by first | rfl | simp [AV.pureB, AV.pureL, pureL_c, pures]) fun hb => ?_
    clear hb
    refine walkBF (@str_size) ?_
    refine ⟨by first | exact .inr rfl | exact .inl rfl, ?_⟩; rw [Tryz.results258]; simp only [resOk, resV, go_sem, Int.reduceBEq, Int.reduceLE, Int.reduceLT, Int.reduceNeg, Nat.reduceAdd, Nat.reduceEqDiff, Nat.reduceLT, Nat.reduceLeDiff, Nat.reduceMul, Nat.reduceSub, reduceCtorEq, ↓reduceIte]
    exact .c _
  | cons c cs =>
  obtain ⟨l, hll⟩ : ∃ l, l = c :: cs := ⟨_, rfl⟩
  have hpos : 0 < l.length := by rw [hll]; simp
  have e2 : ((l.length : Int) == 0) = false := beq_eq_false_iff_ne.2 (by omega)
  have hc0 : l[0]? = some c := by rw [hll]; rfl
  rw [← hll] at hV hs ⊢
  by_cases hl : l.length ≤ 100
  rotate_left
  · obtain rfl : V = false := by rw [hV, simpleM, decide_eq_false hl]; rfl
    have e1 : decide ((l.length : Int) > 100) = true := by simp; omega
    refine VC.told ent_258 Tryz.func258 rfl Tryz.ntmps258 (by simp) (by first | rfl | simp [AV.pureB, AV.pureL, pureL_c, pures]) (by first | rfl | simp [AV.pureB, AV.pureL, pureL_c, pures]) fun hb => ?_
    clear hb
    refine walkBF (And.intro @str_size (And.intro e1 e2)) ?_
    refine ⟨by first | exact .inr rfl | exact .inl rfl, ?_⟩; rw [Tryz.results258]; simp only [resOk, resV, go_sem, Int.reduceBEq, Int.reduceLE, Int.reduceLT, Int.reduceNeg, Nat.reduceAdd, Nat.reduceEqDiff, Nat.reduceLT, Nat.reduceLeDiff, Nat.reduceMul, Nat.reduceSub, reduceCtorEq, ↓reduceIte]
    exact .c _
  have e1 : decide ((l.length : Int) > 100) = false := by simp; omega
  have hL := rletter9_told c
  have hv : V = (isLet c && l.all fun c => isLet c || isDig c) := by
    rw [hV, simpleM, decide_eq_true hl, Bool.true_and, hll]
    simp only [simp1, List.all_cons]
    cases isLet c <;> simp
  clear hV hll
  obtain ⟨bl, hbl⟩ : ∃ b, b = isLet c := ⟨_, rfl⟩
  rw [← hbl] at hL hv
  refine VC.told ent_258 Tryz.func258 rfl Tryz.ntmps258 (by simp) (by first | rfl | simp [AV.pureB, AV.pureL, pureL_c, pures]) (by first | rfl | simp [AV.pureB, AV.pureL, pureL_c, pures]) fun hb => ?_
  clear hb
  refine walkGF (And.intro @str_size (And.intro e1 (And.intro e2 (And.intro @str_dl hc0)))) ?_
  refine walkC (hL) ?_
  refine walkG ?_
  refine VC.cond (by rfl) (by trivial) (fun hc => ?_) (fun hc => ?_)
  · obtain rfl : V = false := by
      rw [hv]
      have : bl = false := by simpa using hc
      rw [this]
      rfl
    refine walkG ?_
    refine ⟨by first | exact .inr rfl | exact .inl rfl, ?_⟩; rw [Tryz.results258]; simp only [resOk, resV, go_sem, Int.reduceBEq, Int.reduceLE, Int.reduceLT, Int.reduceNeg, Nat.reduceAdd, Nat.reduceEqDiff, Nat.reduceLT, Nat.reduceLeDiff, Nat.reduceMul, Nat.reduceSub, reduceCtorEq, ↓reduceIte]
    exact .c _
  have hbt : bl = true := by simpa using hc
  subst hbt
  rw [Bool.true_and] at hv
  refine walkGF (@str_size) ?_
  refine VC.loop (ι := {i : Nat // i ≤ l.length ∧ ∀ (j : Nat) (c : UInt8), j < i → l[j]? = some c → (isLet c || isDig c) = true})
    (fun q => [(0, .c (.v (.string (str l)))), (3, .c (.v (.int .i64 (q.1 : Int))))]) (fun _ => []) 800 (fun q => l.length - q.1) ⟨0, Nat.zero_le _, fun j c h => by omega⟩ ?_ ?_
  · simp only [Weak, eq_self, used_is, sc_any, sc_c, sc_pp, sc_ref, sc_row, sc_agg, sc_fn, ScL, some_imp, List.forall_mem_map, go_sem, Int.reduceBEq, Int.reduceLE, Int.reduceLT, Int.reduceNeg, Nat.reduceAdd, Nat.reduceEqDiff, Nat.reduceLT, Nat.reduceLeDiff, Nat.reduceMul, Nat.reduceSub, reduceCtorEq, ↓reduceIte]
  rintro ⟨i, hi, ht⟩
  simp only []
  refine walkGF (@str_size) ?_
  refine VC.cond (by rfl) (by trivial) (fun hc => ?_) (fun hc => ?_)
  · have hlt : i < l.length := by simp at hc; omega
    obtain ⟨d, hx⟩ : ∃ d, l[i]? = some d := ⟨l[i], List.getElem?_eq_getElem hlt⟩
    have hw : IntKind.i64.wrap ((i : Int) + 1) = (i : Int) + 1 := wrap64_id (by omega) (by omega)
    have hL := rletter9_told d
    have hD := rdigit9_told d
    obtain ⟨b1, hb1⟩ : ∃ b, b = isLet d := ⟨_, rfl⟩
    obtain ⟨b2, hb2⟩ : ∃ b, b = isDig d := ⟨_, rfl⟩
    rw [← hb1] at hL
    rw [← hb2] at hD
    refine walkGF (And.intro @str_size (And.intro @str_dl hx)) ?_
    refine walkC (hL) ?_
    refine walkGF (And.intro @str_size (And.intro @str_dl hx)) ?_
    refine walkD (hD) ?_
    refine walkG ?_
    refine VC.cond (by rfl) (by trivial) (fun hc2 => ?_) (fun hc2 => ?_)
    · have hf : V = false := by
        rw [hv, List.all_eq_false]
        refine ⟨d, List.mem_of_getElem? hx, ?_⟩
        rw [← hb1, ← hb2]
        cases b1 <;> cases b2 <;> simp at hc2 ⊢
      subst hf
      refine walkG ?_
      refine ⟨by first | exact .inr rfl | exact .inl rfl, ?_⟩; rw [Tryz.results258]; simp only [resOk, resV, go_sem, Int.reduceBEq, Int.reduceLE, Int.reduceLT, Int.reduceNeg, Nat.reduceAdd, Nat.reduceEqDiff, Nat.reduceLT, Nat.reduceLeDiff, Nat.reduceMul, Nat.reduceSub, reduceCtorEq, ↓reduceIte]
      exact .c _
    · refine walkGF (hw) ?_
      refine .next ⟨i + 1, by omega, ?_⟩ ?_ (by simp only []; omega)
      · intro j e hj he
        by_cases hji : j < i
        · exact ht j e hji he
        · obtain rfl : j = i := by omega
          rw [hx] at he
          obtain rfl := Option.some.inj he
          rw [← hb1, ← hb2]
          cases b1 <;> cases b2 <;> simp at hc2 ⊢
      simp only [Weak, eq_self, used_is, sc_any, sc_c, sc_pp, sc_ref, sc_row, sc_agg, sc_fn, ScL, some_imp, List.forall_mem_map, go_sem, Int.reduceBEq, Int.reduceLE, Int.reduceLT, Int.reduceNeg, Nat.reduceAdd, Nat.reduceEqDiff, Nat.reduceLT, Nat.reduceLeDiff, Nat.reduceMul, Nat.reduceSub, reduceCtorEq, ↓reduceIte]
      try exact cI (by omega)
  · have hie : i = l.length := by simp at hc; omega
    have hf : V = true := by
      rw [hv, List.all_eq_true]
      intro e he
      obtain ⟨j, hj⟩ := List.getElem?_of_mem he
      exact ht j e (by have := (List.getElem?_eq_some_iff.1 hj).1; omega) hj
    subst hf
    refine walkG ?_
    refine ⟨by first | exact .inr rfl | exact .inl rfl, ?_⟩; rw [Tryz.results258]; simp only [resOk, resV, go_sem, Int.reduceBEq, Int.reduceLE, Int.reduceLT, Int.reduceNeg, Nat.reduceAdd, Nat.reduceEqDiff, Nat.reduceLT, Nat.reduceLeDiff, Nat.reduceMul, Nat.reduceSub, reduceCtorEq, ↓reduceIte]
    exact .c _
set_option maxRecDepth 100000 in
set_option maxHeartbeats 800000 in
theorem rdot_told (s : List UInt8) (hs : s.length ≤ 1000000000) : Told Tryz.prog 232 [.c (.v (.string (str s)))] (.c (.v (.int .i64 (dotI s)))) := by
  obtain ⟨V, hV⟩ : ∃ V, V = dotI s := ⟨_, rfl⟩
  rw [← hV]
  unfold dotI at hV
  refine VC.told ent_232 Tryz.func232 rfl Tryz.ntmps232 (by simp) (by first | rfl | simp [AV.pureB, AV.pureL, pureL_c, pures]) (by first | rfl | simp [AV.pureB, AV.pureL, pureL_c, pures]) fun hb => ?_
  clear hb
  refine walkG ?_
  refine VC.loop (ι := {x : Nat × Int // x.1 ≤ s.length ∧ dotA x.1 x.2 (s.drop x.1) = V})
    (fun q => [(0, .c (.v (.string (str s)))), (3, .c (.v (.int .i64 q.1.2))), (4, .c (.v (.int .i64 (q.1.1 : Int))))]) (fun _ => []) 800 (fun q => s.length - q.1.1) ⟨(0, -1), Nat.zero_le _, by simpa using hV.symm⟩ ?_ ?_
  · simp only [Weak, eq_self, used_is, sc_any, sc_c, sc_pp, sc_ref, sc_row, sc_agg, sc_fn, ScL, some_imp, List.forall_mem_map, go_sem, Int.reduceBEq, Int.reduceLE, Int.reduceLT, Int.reduceNeg, Nat.reduceAdd, Nat.reduceEqDiff, Nat.reduceLT, Nat.reduceLeDiff, Nat.reduceMul, Nat.reduceSub, reduceCtorEq, ↓reduceIte]
  rintro ⟨⟨i, a⟩, hi, hv⟩
  simp only [] at hi hv ⊢
  refine walkGF (@str_size) ?_
  refine VC.cond (by rfl) (by trivial) (fun hc => ?_) (fun hc => ?_)
  · have hlt : i < s.length := by simp at hc; omega
    obtain ⟨d, hx⟩ : ∃ d, s[i]? = some d := ⟨s[i], List.getElem?_eq_getElem hlt⟩
    have hw : IntKind.i64.wrap ((i : Int) + 1) = (i : Int) + 1 := wrap64_id (by omega) (by omega)
    rw [(List.drop_eq_getElem_cons hlt).trans (by rw [(List.getElem?_eq_some_iff.1 hx).2] : _ = d :: s.drop (i + 1)), dotA] at hv
    refine walkGF (And.intro @str_size (And.intro @str_dl hx)) ?_
    refine VC.cond (by rfl) (by trivial) (fun hc2 => ?_) (fun hc2 => ?_)
    · have hd : d = 46 := by
        simp at hc2
        exact UInt8.toNat_inj.1 (by simp; omega)
      rw [if_pos hd] at hv
      refine walkGF (hw) ?_
      refine .next ⟨(i + 1, (i : Int)), by simp only []; omega, hv⟩ ?_ (by simp only []; omega)
      simp only [Weak, eq_self, used_is, sc_any, sc_c, sc_pp, sc_ref, sc_row, sc_agg, sc_fn, ScL, some_imp, List.forall_mem_map, go_sem, Int.reduceBEq, Int.reduceLE, Int.reduceLT, Int.reduceNeg, Nat.reduceAdd, Nat.reduceEqDiff, Nat.reduceLT, Nat.reduceLeDiff, Nat.reduceMul, Nat.reduceSub, reduceCtorEq, ↓reduceIte]
      try exact cI (by omega)
    · have hd : d ≠ 46 := by
        rintro rfl
        simp at hc2
      rw [if_neg hd] at hv
      refine walkGF (hw) ?_
      refine .next ⟨(i + 1, a), by simp only []; omega, hv⟩ ?_ (by simp only []; omega)
      simp only [Weak, eq_self, used_is, sc_any, sc_c, sc_pp, sc_ref, sc_row, sc_agg, sc_fn, ScL, some_imp, List.forall_mem_map, go_sem, Int.reduceBEq, Int.reduceLE, Int.reduceLT, Int.reduceNeg, Nat.reduceAdd, Nat.reduceEqDiff, Nat.reduceLT, Nat.reduceLeDiff, Nat.reduceMul, Nat.reduceSub, reduceCtorEq, ↓reduceIte]
      try exact cI (by omega)
  · have hie : i = s.length := by simp at hc; omega
    have hf : V = a := by rw [← hv, hie, List.drop_length, dotA]
    subst hf
    refine walkG ?_
    refine ⟨by first | exact .inr rfl | exact .inl rfl, ?_⟩; rw [Tryz.results232]; simp only [resOk, resV, go_sem, Int.reduceBEq, Int.reduceLE, Int.reduceLT, Int.reduceNeg, Nat.reduceAdd, Nat.reduceEqDiff, Nat.reduceLT, Nat.reduceLeDiff, Nat.reduceMul, Nat.reduceSub, reduceCtorEq, ↓reduceIte]
    exact .c _
set_option maxRecDepth 100000 in
set_option maxHeartbeats 800000 in
theorem rfull_told (s : List UInt8) (hs : s.length ≤ 1000000000) : Told Tryz.prog 209 [.c (.v (.string (str s)))] (.c (.v (.bool (fullM s)))) := by
  obtain ⟨V, hV⟩ : ∃ V, V = fullM s := ⟨_, rfl⟩
  rw [← hV]
  rw [fullM_ok] at hV
  refine VC.told ent_209 Tryz.func209 rfl Tryz.ntmps209 (by simp) (by first | rfl | simp [AV.pureB, AV.pureL, pureL_c, pures]) (by first | rfl | simp [AV.pureB, AV.pureL, pureL_c, pures]) fun hb => ?_
  clear hb
  refine walkGF (@str_size) ?_
  refine VC.cond (by rfl) (by trivial) (fun hc => ?_) (fun hc => ?_)
  · have hf : V = false := by
      have : ¬ (s.length ≤ 100) := by simp at hc; omega
      rw [hV]
      simp [this]
    subst hf
    refine walkG ?_
    refine ⟨by first | exact .inr rfl | exact .inl rfl, ?_⟩; rw [Tryz.results209]; simp only [resOk, resV, go_sem, Int.reduceBEq, Int.reduceLE, Int.reduceLT, Int.reduceNeg, Nat.reduceAdd, Nat.reduceEqDiff, Nat.reduceLT, Nat.reduceLeDiff, Nat.reduceMul, Nat.reduceSub, reduceCtorEq, ↓reduceIte]
    exact .c _
  have hl : s.length ≤ 100 := by simp at hc; omega
  have hv : okF s = V := by rw [hV]; simp [hl]
  clear hV hc
  refine walkG ?_
  refine VC.loop (ι := {l : List UInt8 // l.length ≤ 100 ∧ okF l = V}) (fun q => [(0, .c (.v (.string (str q.1))))]) (fun _ => []) 800 (fun q => q.1.length) ⟨s, hl, hv⟩ ?_ ?_
  · simp only [Weak, eq_self, used_is, sc_any, sc_c, sc_pp, sc_ref, sc_row, sc_agg, sc_fn, ScL, some_imp, List.forall_mem_map, go_sem, Int.reduceBEq, Int.reduceLE, Int.reduceLT, Int.reduceNeg, Nat.reduceAdd, Nat.reduceEqDiff, Nat.reduceLT, Nat.reduceLeDiff, Nat.reduceMul, Nat.reduceSub, reduceCtorEq, ↓reduceIte]
  rintro ⟨l, hl, hv⟩
  simp only []
  have hD := rdot_told l (by omega)
  refine walkG ?_
  refine walkC (hD) ?_
  rcases dotI_spec l with ⟨h1, h2⟩ | ⟨j, hj, h2, h3, h4⟩
  · rw [okF_none h1] at hv
    have hS := rsimple_told l (by omega)
    have hsv : simpleM l = V := by rw [simpleM, ← hv]; simp [hl]
    rw [hsv] at hS
    rw [h2] at hD ⊢
    refine walkB ?_
    refine walkC (hS) ?_
    refine walkG ?_
    refine ⟨by first | exact .inr rfl | exact .inl rfl, ?_⟩; rw [Tryz.results209]; simp only [resOk, resV, go_sem, Int.reduceBEq, Int.reduceLE, Int.reduceLT, Int.reduceNeg, Nat.reduceAdd, Nat.reduceEqDiff, Nat.reduceLT, Nat.reduceLeDiff, Nat.reduceMul, Nat.reduceSub, reduceCtorEq, ↓reduceIte]
    exact .c _
  · rw [h2] at hD ⊢
    obtain ⟨t, htt⟩ : ∃ t, t = l.drop (j + 1) := ⟨_, rfl⟩
    have htl : t.length ≤ 100 := by rw [htt, List.length_drop]; omega
    have hS := rsimple_told t (by omega)
    have hsv : simpleM t = simp1 t := by rw [simpleM]; simp [htl]
    rw [hsv] at hS
    have hv2 : (okF (l.take j) && simp1 t) = V := by
      rw [← okF_dot (by rw [htt]; exact h4), htt, ← h3]
      exact hv
    obtain ⟨b, hbb⟩ : ∃ b, b = simp1 t := ⟨_, rfl⟩
    rw [← hbb] at hS hv2
    have hd : decide ((j : Int) ≥ 0) = true := by simp
    have hw : IntKind.i64.wrap ((j : Int) + 1) = (j : Int) + 1 := wrap64_id (by omega) (by omega)
    have ht : ((j : Int) + 1).toNat = j + 1 := by omega
    have hx1 : (str l).extract 0 j = str (l.take j) := by rw [str_extract, List.drop_zero]
    have hx2 : (str l).extract (j + 1) l.length = str t := by rw [str_extract, List.take_length, htt]
    refine walkBF (hd) ?_
    refine walkC (hD) ?_
    refine walkGF (And.intro hw (And.intro @str_size (And.intro ht hx2))) ?_
    refine walkC (hS) ?_
    refine walkG ?_
    refine VC.cond (by rfl) (by trivial) (fun hc => ?_) (fun hc => ?_)
    · have hf : V = false := by
        have : b = false := by simpa using hc
        rw [← hv2, this]
        simp
      subst hf
      refine walkG ?_
      refine ⟨by first | exact .inr rfl | exact .inl rfl, ?_⟩; rw [Tryz.results209]; simp only [resOk, resV, go_sem, Int.reduceBEq, Int.reduceLE, Int.reduceLT, Int.reduceNeg, Nat.reduceAdd, Nat.reduceEqDiff, Nat.reduceLT, Nat.reduceLeDiff, Nat.reduceMul, Nat.reduceSub, reduceCtorEq, ↓reduceIte]
      exact .c _
    · have hbt : b = true := by simpa using hc
      rw [hbt, Bool.and_true] at hv2
      refine walkG ?_
      refine walkC (hD) ?_
      refine walkGF (And.intro @str_size hx1) ?_
      refine .next ⟨l.take j, by rw [List.length_take]; omega, hv2⟩ ?_ (by simp only [List.length_take]; omega)
      simp only [Weak, eq_self, used_is, sc_any, sc_c, sc_pp, sc_ref, sc_row, sc_agg, sc_fn, ScL, some_imp, List.forall_mem_map, go_sem, Int.reduceBEq, Int.reduceLE, Int.reduceLT, Int.reduceNeg, Nat.reduceAdd, Nat.reduceEqDiff, Nat.reduceLT, Nat.reduceLeDiff, Nat.reduceMul, Nat.reduceSub, reduceCtorEq, ↓reduceIte]
set_option maxRecDepth 100000 in
set_option maxHeartbeats 1600000 in
theorem rword_told (k : Nat) (hk : k ≤ 14) (w : List UInt8) (hw : kwords[k]? = some w) : Told Tryz.prog 154 [.c (.v (.int .i64 (k : Int)))] (.c (.v (.string (str w)))) := by
  rcases (by omega : k = 0 ∨ k = 1 ∨ k = 2 ∨ k = 3 ∨ k = 4 ∨ k = 5 ∨ k = 6 ∨ k = 7 ∨ k = 8 ∨ k = 9 ∨ k = 10 ∨ k = 11 ∨ k = 12 ∨ k = 13 ∨ k = 14) with rfl | rfl | rfl | rfl | rfl | rfl | rfl | rfl | rfl | rfl | rfl | rfl | rfl | rfl | rfl
  all_goals
    obtain rfl := Option.some.inj hw
    refine VC.told ent_154 Tryz.func154 rfl Tryz.ntmps154 (by simp) (by first | rfl | simp [AV.pureB, AV.pureL, pureL_c, pures]) (by first | rfl | simp [AV.pureB, AV.pureL, pureL_c, pures]) fun hb => ?_
    clear hb
    refine walkB ?_
    refine ⟨by first | exact .inr rfl | exact .inl rfl, ?_⟩; rw [Tryz.results154]; simp only [resOk, resV, go_sem, Int.reduceBEq, Int.reduceLE, Int.reduceLT, Int.reduceNeg, Nat.reduceAdd, Nat.reduceEqDiff, Nat.reduceLT, Nat.reduceLeDiff, Nat.reduceMul, Nat.reduceSub, reduceCtorEq, ↓reduceIte]
    exact .c _
set_option maxRecDepth 100000 in
set_option maxHeartbeats 800000 in
theorem rkind_told (s : List UInt8) : Told Tryz.prog 210 [.c (.v (.string (str s)))] (.c (.v (.int .i64 (kindM s : Int)))) := by
  obtain ⟨V, hV⟩ : ∃ V, V = kindM s := ⟨_, rfl⟩
  rw [← hV]
  refine VC.told ent_210 Tryz.func210 rfl Tryz.ntmps210 (by simp) (by first | rfl | simp [AV.pureB, AV.pureL, pureL_c, pures]) (by first | rfl | simp [AV.pureB, AV.pureL, pureL_c, pures]) fun hb => ?_
  clear hb
  have hE : (⟨#[]⟩ : ByteArray).toList = [] := str_toList []
  have hkl : kwords.length = 15 := rfl
  refine walkG ?_
  refine VC.loop (ι := {i : Nat // 1 ≤ i ∧ i ≤ 15 ∧ ∀ (j : Nat) (w : List UInt8), j < i → kwords[j]? = some w → s ≠ [] → w ≠ s}) (fun q => [(0, .c (.v (.string (str s)))), (3, .c (.v (.int .i64 (q.1 : Int))))]) (fun _ => []) 800 (fun q => 15 - q.1)
    ⟨1, by omega, by omega, fun j w h hj hs => by
      obtain rfl : j = 0 := by omega
      obtain rfl := Option.some.inj hj
      exact fun e => hs e.symm⟩ ?_ ?_
  · simp only [Weak, eq_self, used_is, sc_any, sc_c, sc_pp, sc_ref, sc_row, sc_agg, sc_fn, ScL, some_imp, List.forall_mem_map, go_sem, Int.reduceBEq, Int.reduceLE, Int.reduceLT, Int.reduceNeg, Nat.reduceAdd, Nat.reduceEqDiff, Nat.reduceLT, Nat.reduceLeDiff, Nat.reduceMul, Nat.reduceSub, reduceCtorEq, ↓reduceIte]
  rintro ⟨i, hi0, hi, ht⟩
  simp only []
  refine walkG ?_
  refine VC.cond (by rfl) (by trivial) (fun hc => ?_) (fun hc => ?_)
  · have hlt : i < 15 := by simp at hc; omega
    obtain ⟨w, hx⟩ : ∃ w, kwords[i]? = some w := ⟨kwords[i]'(by omega), List.getElem?_eq_getElem (by omega)⟩
    have hw : IntKind.i64.wrap ((i : Int) + 1) = (i : Int) + 1 := wrap64_id (by omega) (by omega)
    have hW := rword_told i (by omega) w hx
    refine walkGF (And.intro @str_toList hE) ?_
    refine walkD (hW) ?_
    refine walkGF (And.intro @str_toList hE) ?_
    refine VC.cond (by rfl) (by trivial) (fun hc2 => ?_) (fun hc2 => ?_)
    · have hh : s ≠ [] ∧ w = s := by simpa using hc2
      have hf : V = i := by
        rw [hV, kindM, if_neg hh.1]
        have : kwords.findIdx? (· == s) = some i := by
          rw [List.findIdx?_eq_some_iff_getElem]
          refine ⟨by omega, ?_, fun j hj => ?_⟩
          · have := (List.getElem?_eq_some_iff.1 hx).2
            simp [this, hh.2]
          · have := ht j _ hj (List.getElem?_eq_getElem (by omega)) hh.1
            simpa using this
        rw [this]
      subst hf
      refine walkG ?_
      refine ⟨by first | exact .inr rfl | exact .inl rfl, ?_⟩; rw [Tryz.results210]; simp only [resOk, resV, go_sem, Int.reduceBEq, Int.reduceLE, Int.reduceLT, Int.reduceNeg, Nat.reduceAdd, Nat.reduceEqDiff, Nat.reduceLT, Nat.reduceLeDiff, Nat.reduceMul, Nat.reduceSub, reduceCtorEq, ↓reduceIte]
      exact .c _
    · have hh : ¬ (s ≠ [] ∧ w = s) := by simpa using hc2
      refine walkGF (hw) ?_
      refine .next ⟨i + 1, by omega, by omega, ?_⟩ ?_ (by simp only []; omega)
      · intro j u hj hu hs
        by_cases hji : j < i
        · exact ht j u hji hu hs
        · obtain rfl : j = i := by omega
          rw [hx] at hu
          obtain rfl := Option.some.inj hu
          exact fun e => hh ⟨hs, e⟩
      simp only [Weak, eq_self, used_is, sc_any, sc_c, sc_pp, sc_ref, sc_row, sc_agg, sc_fn, ScL, some_imp, List.forall_mem_map, go_sem, Int.reduceBEq, Int.reduceLE, Int.reduceLT, Int.reduceNeg, Nat.reduceAdd, Nat.reduceEqDiff, Nat.reduceLT, Nat.reduceLeDiff, Nat.reduceMul, Nat.reduceSub, reduceCtorEq, ↓reduceIte]
      exact cI (by omega)
  · have hie : i = 15 := by simp at hc; omega
    have hf : V = 0 := by
      rw [hV, kindM]
      split
      · rfl
      · rename_i hs
        have : kwords.findIdx? (· == s) = none := by
          rw [List.findIdx?_eq_none_iff]
          intro w hw
          obtain ⟨j, hj⟩ := List.getElem?_of_mem hw
          have := ht j w (by have := (List.getElem?_eq_some_iff.1 hj).1; omega) hj hs
          simpa using this
        rw [this]
    subst hf
    refine walkG ?_
    refine ⟨by first | exact .inr rfl | exact .inl rfl, ?_⟩; rw [Tryz.results210]; simp only [resOk, resV, go_sem, Int.reduceBEq, Int.reduceLE, Int.reduceLT, Int.reduceNeg, Nat.reduceAdd, Nat.reduceEqDiff, Nat.reduceLT, Nat.reduceLeDiff, Nat.reduceMul, Nat.reduceSub, reduceCtorEq, ↓reduceIte]
    exact .c _

def wB (ns : List NT) (r : Int) (p : Nat) : Blkd := ⟨false, 231, 3, [[.c (.sl 10 (ns.map NT.cells)), .c (.v (.int .i64 r)), .c (.v (.int .i64 (p : Int)))]]⟩
theorem kids_len {n : NT} (h : n.sm 1000000) : (kidsN n).length ≤ 1000000 := by
  unfold kidsN
  have h1 := h.2.2.2.2.1
  have h2 := h.2.2.2.2.2.1
  split
  · simpa using h2
  · split
    · simp
    · split
      · exact h1
      · simp
theorem drop_at' {α : Type} {l : List α} {i : Nat} {x : α} (h : l[i]? = some x) : l.drop i = x :: l.drop (i + 1) := by
  obtain ⟨hlt, rfl⟩ := List.getElem?_eq_some_iff.1 h
  exact List.drop_eq_getElem_cons hlt
set_option maxRecDepth 100000 in
set_option maxHeartbeats 1600000 in
theorem walk_told (ns : List NT) (r : Int) (hl : ns.length ≤ 1000000) (hs : ∀ n ∈ ns, n.sm 1000000) : ∀ (d : Nat) (z : Int), z = 33 - (d : Int) → d ≤ 33 → ∀ p : Nat, p ≤ ns.length →
    ToldM Tryz.prog 178 [.ref 1000000 1 0 0, .c (.v (.int .i64 z))] [wB ns r p] [some (wB ns r (walkM ns d p).2)] (.c (.v (.bool (walkM ns d p).1))) := by
  intro d
  induction d with
  | zero =>
    intro z hz hd p hp
    have hz2 : decide (z > 32) = true := by simp; omega
    rw [walkM]
    unfold wB
    refine VC.toldM ent_178 [] Tryz.func178 rfl Tryz.ntmps178 (by simp) (by simp only [ScM, zOk, inL, eq_self, used_is, sc_any, sc_c, sc_pp, sc_ref, sc_row, sc_agg, sc_tup, sc_fn, ScL, some_imp, List.forall_mem_map, Nat.le_refl, go_sem, simprocAttr]) (by simp only [ScM, zOk, inL, eq_self, used_is, sc_any, sc_c, sc_pp, sc_ref, sc_row, sc_agg, sc_tup, sc_fn, ScL, some_imp, List.forall_mem_map, Nat.le_refl, go_sem, simprocAttr]) (by simp only [ScM, zOk, inL, eq_self, used_is, sc_any, sc_c, sc_pp, sc_ref, sc_row, sc_agg, sc_tup, sc_fn, ScL, some_imp, List.forall_mem_map, Nat.le_refl, go_sem, simprocAttr]) (by simp only [ScM, zOk, inL, eq_self, used_is, sc_any, sc_c, sc_pp, sc_ref, sc_row, sc_agg, sc_tup, sc_fn, ScL, some_imp, List.forall_mem_map, Nat.le_refl, go_sem, simprocAttr]) (by simp) fun hb hbL => ?_
    clear hb hbL
    refine walkGF (hz2) ?_
    refine VC.cond (by rfl) (by trivial) (fun hc => ?_) (fun hc => ?_)
    · refine walkG ?_
      refine ⟨by first | exact .inr rfl | exact .inl rfl, ?_⟩; rw [Tryz.results178]; simp only [resOk, resV, go_sem, Int.reduceBEq, Int.reduceLE, Int.reduceLT, Int.reduceNeg, Nat.reduceAdd, Nat.reduceEqDiff, Nat.reduceLT, Nat.reduceLeDiff, Nat.reduceMul, Nat.reduceSub, reduceCtorEq, ↓reduceIte]
      exact .c _
    · exact absurd hc (by simp)
  | succ d ih =>
    intro z hz hd p hp
    have hz2 : decide (z > 32) = false := by simp; omega
    have hwz : IntKind.i64.wrap (z + 1) = z + 1 := wrap64_id (by omega) (by omega)
    have hI := ih (z + 1) (by omega) (by omega)
    clear ih
    obtain ⟨R, hR⟩ : ∃ R, R = walkM ns (d + 1) p := ⟨_, rfl⟩
    rw [← hR]
    rw [walkM] at hR
    have hle := walkM_le ns d
    by_cases hlt : p < ns.length
    · obtain ⟨n, hn⟩ : ∃ n, ns[p]? = some n := ⟨ns[p], List.getElem?_eq_getElem hlt⟩
      have hnp : (ns.map NT.cells)[p]? = some n.cells := by rw [List.getElem?_map, hn]; rfl
      have hge : decide ((p : Int) ≥ (ns.length : Int)) = false := by simp; omega
      have hwp : IntKind.i64.wrap ((p : Int) + 1) = ((p + 1 : Nat) : Int) := by rw [wrap64_id (by omega) (by omega)]; rfl
      have hns := hs n (List.mem_of_getElem? hn)
      have hK := kids_told n hns
      have hkl := kids_len hns
      rw [hn] at hR
      simp only [] at hR
      obtain ⟨ks, hks⟩ : ∃ ks, ks = kidsN n := ⟨_, rfl⟩
      rw [← hks] at hK hR hkl
      simp only [NT.av_eq] at hK
      clear hks
      have hKi := hK
      clear hK
      unfold wB at hI ⊢
      refine VC.toldM ent_178 [] Tryz.func178 rfl Tryz.ntmps178 (by simp) (by simp only [ScM, zOk, inL, eq_self, used_is, sc_any, sc_c, sc_pp, sc_ref, sc_row, sc_agg, sc_tup, sc_fn, ScL, some_imp, List.forall_mem_map, Nat.le_refl, go_sem, simprocAttr]) (by simp only [ScM, zOk, inL, eq_self, used_is, sc_any, sc_c, sc_pp, sc_ref, sc_row, sc_agg, sc_tup, sc_fn, ScL, some_imp, List.forall_mem_map, Nat.le_refl, go_sem, simprocAttr]) (by simp only [ScM, zOk, inL, eq_self, used_is, sc_any, sc_c, sc_pp, sc_ref, sc_row, sc_agg, sc_tup, sc_fn, ScL, some_imp, List.forall_mem_map, Nat.le_refl, go_sem, simprocAttr]) (by simp only [ScM, zOk, inL, eq_self, used_is, sc_any, sc_c, sc_pp, sc_ref, sc_row, sc_agg, sc_tup, sc_fn, ScL, some_imp, List.forall_mem_map, Nat.le_refl, go_sem, simprocAttr]) (by simp) fun hb hbL => ?_
      clear hb hbL
      refine walkGF (And.intro hge hz2) ?_
      refine VC.cond (by rfl) (by trivial) (fun hc => ?_) (fun hc => ?_)
      · exact absurd hc (by simp)
      refine walkGF (And.intro hwp (And.intro hnp (And.intro @len_ncells (And.intro @take_ncells @take_ncellsC)))) ?_
      refine walkCF (@pureL_c) (hKi) ?_
      refine walkG ?_
      clear hKi
      refine VC.loop (ι := {x : Nat × Nat // x.1 ≤ ks.length ∧ x.2 ≤ ns.length ∧ walkK ns (walkM ns d) (ks.drop x.1) x.2 = R})
        (fun q => [(0, .ref 1000000 1 0 0), (1, .c (.v (.int .i64 z))), (6, .fn (.func 178) [.ref 1000000 1 0 0] []), (42, .c (.sl 1 (ks.map iPV))), (43, .c (.v (.int .i64 (ks.length : Int)))), (44, .c (.v (.int .i64 (q.1.1 : Int))))])
        (fun q => [(1000000, ⟨false, 231, 3, [[.c (.sl 10 (ns.map NT.cells)), .c (.v (.int .i64 r)), .c (.v (.int .i64 (q.1.2 : Int)))]]⟩)]) 800 (fun q => ks.length - q.1.1) ⟨(0, p + 1), Nat.zero_le _, hlt, by rw [List.drop_zero]; exact hR.symm⟩ ?_ ?_
      · simp only [Weak, eq_self, used_is, sc_any, sc_c, sc_pp, sc_ref, sc_row, sc_agg, sc_fn, ScL, some_imp, List.forall_mem_map, go_sem, Int.reduceBEq, Int.reduceLE, Int.reduceLT, Int.reduceNeg, Nat.reduceAdd, Nat.reduceEqDiff, Nat.reduceLT, Nat.reduceLeDiff, Nat.reduceMul, Nat.reduceSub, reduceCtorEq, ↓reduceIte]
        try simp
      clear hR
      rintro ⟨⟨i, q⟩, hi, hq, hR⟩
      simp only [] at hi hq hR ⊢
      refine walkG ?_
      refine VC.cond (by rfl) (by trivial) (fun hc2 => ?_) (fun hc2 => ?_)
      · have hil : i < ks.length := by simp at hc2; omega
        obtain ⟨x, hx⟩ : ∃ x, ks[i]? = some x := ⟨ks[i], List.getElem?_eq_getElem hil⟩
        have hxp : (ks.map iPV)[i]? = some (iPV x) := by rw [List.getElem?_map, hx]; rfl
        have hw : IntKind.i64.wrap ((i : Int) + 1) = (i : Int) + 1 := wrap64_id (by omega) (by omega)
        rw [drop_at' hx, walkK] at hR
        by_cases hk : x = (q : Int)
        · rw [if_pos hk] at hR
          have hkq : (x == (q : Int)) = true := by simpa using hk
          have hIq := hI q hq
          have hqb := (hle q hq).2
          obtain ⟨M, hM⟩ : ∃ M, M = walkM ns d q := ⟨_, rfl⟩
          rw [← hM] at hIq hR hqb
          clear hI hM
          refine walkBF (And.intro hxp (And.intro @iPV_eq (And.intro hkq hwz))) ?_
          ((refine AO.step fun K hK => ?_; simp only [go_sem, Int.reduceBEq, Int.reduceLE, Int.reduceLT, Int.reduceNeg, Nat.reduceAdd, Nat.reduceEqDiff, Nat.reduceLT, Nat.reduceLeDiff, Nat.reduceMul, Nat.reduceSub, reduceCtorEq, ↓reduceIte]; (first | refine gsel_go ?_ | skip)); refine .inr (.inr (.inl ⟨?vy1, [1000000], ?va1, ?vl1, ?vm1, ?cond1, ?cont1⟩)); (case cond1 => ((repeat' apply And.intro) <;> (try ((with_reducible show ToldM _ _ _ _ _ _); exact hIq))); (all_goals first | trivial | (simp only [go_sem, simprocAttr]; done) | (simp; done) | rfl)); (first | refine hK _ _ _ ?_ | (simp only [go_sem, simprocAttr]; first | refine hK _ _ _ ?_ | refine ⟨rfl, hK _ _ _ ?_⟩)); clear hK K)
          refine walkG ?_
          refine VC.cond (by rfl) (by trivial) (fun hc3 => ?_) (fun hc3 => ?_)
          · have hf : R = (false, M.2) := by
              rw [if_neg (by simpa using hc3)] at hR
              exact hR.symm
            subst hf
            refine walkG ?_
            refine ⟨by first | exact .inr rfl | exact .inl rfl, ?_⟩; rw [Tryz.results178]; simp only [resOk, resV, go_sem, Int.reduceBEq, Int.reduceLE, Int.reduceLT, Int.reduceNeg, Nat.reduceAdd, Nat.reduceEqDiff, Nat.reduceLT, Nat.reduceLeDiff, Nat.reduceMul, Nat.reduceSub, reduceCtorEq, ↓reduceIte]
            exact .c _
          · rw [if_pos (by simpa using hc3)] at hR
            refine walkGF (hw) ?_
            refine .next ⟨(i + 1, M.2), by simp only []; omega, hqb, hR⟩ ?_ (by simp only []; omega)
            simp only [Weak, eq_self, used_is, sc_any, sc_c, sc_pp, sc_ref, sc_row, sc_agg, sc_fn, ScL, some_imp, List.forall_mem_map, go_sem, Int.reduceBEq, Int.reduceLE, Int.reduceLT, Int.reduceNeg, Nat.reduceAdd, Nat.reduceEqDiff, Nat.reduceLT, Nat.reduceLeDiff, Nat.reduceMul, Nat.reduceSub, reduceCtorEq, ↓reduceIte]
            try exact cI (by omega)
        · rw [if_neg hk] at hR
          have hkq : (x == (q : Int)) = false := by simpa using hk
          by_cases hx0 : x < 0
          · have hf : R = (false, q) := by
              rw [if_pos (.inl hx0)] at hR
              exact hR.symm
            subst hf
            have e0 : decide (x < 0) = true := by simpa using hx0
            refine walkBF (And.intro hxp (And.intro @iPV_eq (And.intro hkq e0))) ?_
            refine ⟨by first | exact .inr rfl | exact .inl rfl, ?_⟩; rw [Tryz.results178]; simp only [resOk, resV, go_sem, Int.reduceBEq, Int.reduceLE, Int.reduceLT, Int.reduceNeg, Nat.reduceAdd, Nat.reduceEqDiff, Nat.reduceLT, Nat.reduceLeDiff, Nat.reduceMul, Nat.reduceSub, reduceCtorEq, ↓reduceIte]
            exact .c _
          have e0 : decide (x < 0) = false := by simpa using hx0
          by_cases hxq : x > (q : Int)
          · have hf : R = (false, q) := by
              rw [if_pos (.inr (.inl hxq))] at hR
              exact hR.symm
            subst hf
            have e1 : decide (x > (q : Int)) = true := by simpa using hxq
            refine walkBF (And.intro hxp (And.intro @iPV_eq (And.intro hkq (And.intro e0 e1)))) ?_
            refine ⟨by first | exact .inr rfl | exact .inl rfl, ?_⟩; rw [Tryz.results178]; simp only [resOk, resV, go_sem, Int.reduceBEq, Int.reduceLE, Int.reduceLT, Int.reduceNeg, Nat.reduceAdd, Nat.reduceEqDiff, Nat.reduceLT, Nat.reduceLeDiff, Nat.reduceMul, Nat.reduceSub, reduceCtorEq, ↓reduceIte]
            exact .c _
          have e1 : decide (x > (q : Int)) = false := by simpa using hxq
          obtain ⟨j, rfl⟩ : ∃ j : Nat, x = (j : Int) := ⟨x.toNat, by omega⟩
          have hj : j < ns.length := by omega
          obtain ⟨m, hm⟩ : ∃ m, ns[j]? = some m := ⟨ns[j], List.getElem?_eq_getElem hj⟩
          have hmp : (ns.map NT.cells)[j]? = some m.cells := by rw [List.getElem?_map, hm]; rfl
          have hka : kindAt ns ((j : Int)).toNat = m.kind := by rw [Int.toNat_natCast, kindAt, hm]
          rw [hka] at hR
          have hN := named_told m.kind
          refine walkBF (And.intro hxp (And.intro @iPV_eq (And.intro hkq (And.intro e0 (And.intro e1 (And.intro hmp @ncells_mk)))))) ?_
          refine walkC (hN) ?_
          refine walkG ?_
          refine VC.cond (by rfl) (by trivial) (fun hc3 => ?_) (fun hc3 => ?_)
          · have hf : R = (false, q) := by
              rw [if_pos (.inr (.inr (by simpa using hc3)))] at hR
              exact hR.symm
            subst hf
            refine walkG ?_
            refine ⟨by first | exact .inr rfl | exact .inl rfl, ?_⟩; rw [Tryz.results178]; simp only [resOk, resV, go_sem, Int.reduceBEq, Int.reduceLE, Int.reduceLT, Int.reduceNeg, Nat.reduceAdd, Nat.reduceEqDiff, Nat.reduceLT, Nat.reduceLeDiff, Nat.reduceMul, Nat.reduceSub, reduceCtorEq, ↓reduceIte]
            exact .c _
          · have hnn : namedK m.kind = true := by simpa using hc3
            have hno : ¬ ((j : Int) < 0 ∨ (j : Int) > (q : Int) ∨ namedK m.kind = false) := by
              rintro (h | h | h)
              · exact hx0 h
              · exact hxq h
              · rw [hnn] at h
                exact absurd h (by simp)
            rw [if_neg hno] at hR
            refine walkGF (hw) ?_
            refine .next ⟨(i + 1, q), by simp only []; omega, hq, hR⟩ ?_ (by simp only []; omega)
            simp only [Weak, eq_self, used_is, sc_any, sc_c, sc_pp, sc_ref, sc_row, sc_agg, sc_fn, ScL, some_imp, List.forall_mem_map, go_sem, Int.reduceBEq, Int.reduceLE, Int.reduceLT, Int.reduceNeg, Nat.reduceAdd, Nat.reduceEqDiff, Nat.reduceLT, Nat.reduceLeDiff, Nat.reduceMul, Nat.reduceSub, reduceCtorEq, ↓reduceIte]
            try exact cI (by omega)
      · have hie : i = ks.length := by simp at hc2; omega
        have hf : R = (true, q) := by
          rw [hie, List.drop_length, walkK] at hR
          exact hR.symm
        subst hf
        refine walkG ?_
        refine ⟨by first | exact .inr rfl | exact .inl rfl, ?_⟩; rw [Tryz.results178]; simp only [resOk, resV, go_sem, Int.reduceBEq, Int.reduceLE, Int.reduceLT, Int.reduceNeg, Nat.reduceAdd, Nat.reduceEqDiff, Nat.reduceLT, Nat.reduceLeDiff, Nat.reduceMul, Nat.reduceSub, reduceCtorEq, ↓reduceIte]
        exact .c _
    · have hR : R = (false, p) := by
        rw [hR, List.getElem?_eq_none (by omega)]
      subst hR
      have hge : decide ((p : Int) ≥ (ns.length : Int)) = true := by simp; omega
      unfold wB
      refine VC.toldM ent_178 [] Tryz.func178 rfl Tryz.ntmps178 (by simp) (by simp only [ScM, zOk, inL, eq_self, used_is, sc_any, sc_c, sc_pp, sc_ref, sc_row, sc_agg, sc_tup, sc_fn, ScL, some_imp, List.forall_mem_map, Nat.le_refl, go_sem, simprocAttr]) (by simp only [ScM, zOk, inL, eq_self, used_is, sc_any, sc_c, sc_pp, sc_ref, sc_row, sc_agg, sc_tup, sc_fn, ScL, some_imp, List.forall_mem_map, Nat.le_refl, go_sem, simprocAttr]) (by simp only [ScM, zOk, inL, eq_self, used_is, sc_any, sc_c, sc_pp, sc_ref, sc_row, sc_agg, sc_tup, sc_fn, ScL, some_imp, List.forall_mem_map, Nat.le_refl, go_sem, simprocAttr]) (by simp only [ScM, zOk, inL, eq_self, used_is, sc_any, sc_c, sc_pp, sc_ref, sc_row, sc_agg, sc_tup, sc_fn, ScL, some_imp, List.forall_mem_map, Nat.le_refl, go_sem, simprocAttr]) (by simp) fun hb hbL => ?_
      clear hb hbL
      refine walkGF (hge) ?_
      refine VC.cond (by rfl) (by trivial) (fun hc => ?_) (fun hc => ?_)
      · refine walkG ?_
        refine ⟨by first | exact .inr rfl | exact .inl rfl, ?_⟩; rw [Tryz.results178]; simp only [resOk, resV, go_sem, Int.reduceBEq, Int.reduceLE, Int.reduceLT, Int.reduceNeg, Nat.reduceAdd, Nat.reduceEqDiff, Nat.reduceLT, Nat.reduceLeDiff, Nat.reduceMul, Nat.reduceSub, reduceCtorEq, ↓reduceIte]
        exact .c _
      · exact absurd hc (by simp)
set_option maxRecDepth 100000 in
set_option maxHeartbeats 800000 in
theorem ordered_told (s : ST) (hl : s.nodes.length ≤ 1000000) (hs : ∀ n ∈ s.nodes, n.sm 1000000) : Told Tryz.prog 95 [s.av] (.c (.v (.bool (orderedM s)))) := by
  have hW := walk_told s.nodes s.root hl hs 33 0 (by omega) (by omega) 0 (Nat.zero_le _)
  unfold wB at hW
  obtain ⟨V, hV⟩ : ∃ V, V = orderedM s := ⟨_, rfl⟩
  rw [← hV]
  unfold orderedM at hV
  obtain ⟨M, hM⟩ : ∃ M, M = walkM s.nodes 33 0 := ⟨_, rfl⟩
  rw [← hM] at hV hW
  clear hM
  have hv : V = (decide ((s.nodes.length : Int) > 0) && decide ((s.nodes.length : Int) ≤ 200) && (s.root == 0) && M.1 && ((M.2 : Int) == (s.nodes.length : Int))) := by
    have e1 : decide ((s.nodes.length : Int) > 0) = decide (0 < s.nodes.length) := by simp
    have e2 : decide ((s.nodes.length : Int) ≤ 200) = decide (s.nodes.length ≤ 200) := by simp; omega
    have e3 : (s.root == 0) = decide (s.root = 0) := by by_cases h : s.root = 0 <;> simp [h]
    have e4 : ((M.2 : Int) == (s.nodes.length : Int)) = decide (M.2 = s.nodes.length) := by
      by_cases h : M.2 = s.nodes.length
      · simp [h]
      · have : ¬ ((M.2 : Int) = (s.nodes.length : Int)) := by omega
        simp [h, this]
    rw [hV, e1, e2, e3, e4]
    simp only [Bool.and_assoc]
  clear hV
  replace hv := Lib.hid hv
  rw [ST.av_eq, scells_mk]
  rw [show ((0 : Nat) : Int) = 0 from rfl] at hW
  by_cases c1 : 0 < s.nodes.length
  · have e1 : decide ((s.nodes.length : Int) > 0) = true := by simpa using c1
    by_cases c2 : s.nodes.length ≤ 200
    · have e2 : decide ((s.nodes.length : Int) ≤ 200) = true := by simp; omega
      by_cases c3 : s.root = 0
      · have e3 : (s.root == 0) = true := by simpa using c3
        have hv2 : V = (M.1 && ((M.2 : Int) == (s.nodes.length : Int))) := by rw [hv.out, e1, e2, e3]; simp
        clear hv
        replace hv2 := Lib.hid hv2
        refine VC.told ent_95 Tryz.func95 rfl Tryz.ntmps95 (by simp) (by first | rfl | simp [AV.pureB, AV.pureL, pureL_c, pures]) (by first | rfl | simp [AV.pureB, AV.pureL, pureL_c, pures]) fun hb => ?_
        clear hb
        refine walkGF (And.intro e1 (And.intro e2 e3)) ?_
        ((refine AO.step fun K hK => ?_; simp only [go_sem, Int.reduceBEq, Int.reduceLE, Int.reduceLT, Int.reduceNeg, Nat.reduceAdd, Nat.reduceEqDiff, Nat.reduceLT, Nat.reduceLeDiff, Nat.reduceMul, Nat.reduceSub, reduceCtorEq, ↓reduceIte]; (first | refine gsel_go ?_ | skip)); refine .inr (.inr (.inl ⟨?vy2, [32], ?va2, ?vl2, ?vm2, ?cond2, ?cont2⟩)); (case cond2 => ((repeat' apply And.intro) <;> (try ((with_reducible show ToldM _ _ _ _ _ _); exact hW))); (all_goals first | trivial | (simp only [go_sem, simprocAttr]; done) | (simp; done) | rfl)); (first | refine hK _ _ _ ?_ | (simp only [go_sem, simprocAttr]; first | refine hK _ _ _ ?_ | refine ⟨rfl, hK _ _ _ ?_⟩)); clear hK K)
        refine walkG ?_
        refine ⟨by first | exact .inr rfl | exact .inl rfl, ?_⟩; rw [Tryz.results95]; simp only [resOk, resV, go_sem, Int.reduceBEq, Int.reduceLE, Int.reduceLT, Int.reduceNeg, Nat.reduceAdd, Nat.reduceEqDiff, Nat.reduceLT, Nat.reduceLeDiff, Nat.reduceMul, Nat.reduceSub, reduceCtorEq, ↓reduceIte]
        rw [hv2.out]
        exact .c _
      · have e3 : (s.root == 0) = false := by simpa using c3
        have hv2 : V = false := by rw [hv.out, e3]; simp
        clear hv
        subst hv2
        refine VC.told ent_95 Tryz.func95 rfl Tryz.ntmps95 (by simp) (by first | rfl | simp [AV.pureB, AV.pureL, pureL_c, pures]) (by first | rfl | simp [AV.pureB, AV.pureL, pureL_c, pures]) fun hb => ?_
        clear hb
        refine walkGF (And.intro e1 (And.intro e2 e3)) ?_
        refine ⟨by first | exact .inr rfl | exact .inl rfl, ?_⟩; rw [Tryz.results95]; simp only [resOk, resV, go_sem, Int.reduceBEq, Int.reduceLE, Int.reduceLT, Int.reduceNeg, Nat.reduceAdd, Nat.reduceEqDiff, Nat.reduceLT, Nat.reduceLeDiff, Nat.reduceMul, Nat.reduceSub, reduceCtorEq, ↓reduceIte]
        exact .c _
    · have e2 : decide ((s.nodes.length : Int) ≤ 200) = false := by simp; omega
      have hv2 : V = false := by rw [hv.out, e2]; simp
      clear hv
      subst hv2
      refine VC.told ent_95 Tryz.func95 rfl Tryz.ntmps95 (by simp) (by first | rfl | simp [AV.pureB, AV.pureL, pureL_c, pures]) (by first | rfl | simp [AV.pureB, AV.pureL, pureL_c, pures]) fun hb => ?_
      clear hb
      refine walkGF (And.intro e1 e2) ?_
      refine ⟨by first | exact .inr rfl | exact .inl rfl, ?_⟩; rw [Tryz.results95]; simp only [resOk, resV, go_sem, Int.reduceBEq, Int.reduceLE, Int.reduceLT, Int.reduceNeg, Nat.reduceAdd, Nat.reduceEqDiff, Nat.reduceLT, Nat.reduceLeDiff, Nat.reduceMul, Nat.reduceSub, reduceCtorEq, ↓reduceIte]
      exact .c _
  · have e1 : decide ((s.nodes.length : Int) > 0) = false := by
      rw [show s.nodes.length = 0 by omega]
      rfl
    have hv2 : V = false := by rw [hv.out, e1]; simp
    clear hv
    subst hv2
    refine VC.told ent_95 Tryz.func95 rfl Tryz.ntmps95 (by simp) (by first | rfl | simp [AV.pureB, AV.pureL, pureL_c, pures]) (by first | rfl | simp [AV.pureB, AV.pureL, pureL_c, pures]) fun hb => ?_
    clear hb
    refine walkGF (e1) ?_
    refine ⟨by first | exact .inr rfl | exact .inl rfl, ?_⟩; rw [Tryz.results95]; simp only [resOk, resV, go_sem, Int.reduceBEq, Int.reduceLE, Int.reduceLT, Int.reduceNeg, Nat.reduceAdd, Nat.reduceEqDiff, Nat.reduceLT, Nat.reduceLeDiff, Nat.reduceMul, Nat.reduceSub, reduceCtorEq, ↓reduceIte]
    exact .c _

theorem rnamed10_told (k : Int) : Told Tryz.prog 125 [.c (.v (.int .i64 k))] (.c (.v (.bool (namedK k)))) := by
  obtain ⟨V, hV⟩ : ∃ V, V = namedK k := ⟨_, rfl⟩
  rw [← hV]
  unfold namedK at hV
  replace hV := Lib.hid hV
  refine VC.told ent_125 Tryz.func125 rfl Tryz.ntmps125 (by simp) (by first | rfl | simp [AV.pureB, AV.pureL, pureL_c, pures]) (by first | rfl | simp [AV.pureB, AV.pureL, pureL_c, pures]) fun hb => ?_
  clear hb
  refine walkG ?_
  refine ⟨by first | exact .inr rfl | exact .inl rfl, ?_⟩; rw [Tryz.results125]; simp only [resOk, resV, go_sem, Int.reduceBEq, Int.reduceLE, Int.reduceLT, Int.reduceNeg, Nat.reduceAdd, Nat.reduceEqDiff, Nat.reduceLT, Nat.reduceLeDiff, Nat.reduceMul, Nat.reduceSub, reduceCtorEq, ↓reduceIte]
  rw [hV.out]
  exact .c _
set_option maxRecDepth 100000 in
set_option maxHeartbeats 1600000 in
theorem rkids_told (n : NT) (hn : n.sm 1000000) : Told Tryz.prog 155 [n.av] (.c (.sl 1 ((kidsN n).map iPV))) := by
  obtain ⟨L, hL⟩ : ∃ L, L = kidsN n := ⟨_, rfl⟩
  rw [← hL]
  unfold kidsN at hL
  have hfl := hn.2.2.2.2.2.1
  have hbl := hn.2.2.2.2.1
  rw [NT.av_eq, ncells_mk]
  refine VC.told ent_155 Tryz.func155 rfl Tryz.ntmps155 (by simp) (by first | rfl | simp [AV.pureB, AV.pureL, pureL_c, pures]) (by first | rfl | simp [AV.pureB, AV.pureL, pureL_c, pures]) fun hb => ?_
  clear hb
  by_cases h9 : n.kind = 9
  · rw [if_pos h9] at hL
    subst hL
    rw [h9]
    refine walkB ?_
    refine VC.nil 3 3 1 (by rfl) (by trivial) (by rfl) ?_
    refine VC.loop (ι := {i : Nat // i ≤ n.fields.length}) (fun q => [(1, .ref 0 1 0 0), (3, .row 56 q.1), (4, .c (.v (.int .i64 (q.1 : Int))))])
      (fun q => [(0, ⟨false, 33, 10, [({n with kind := 9} : NT).cells.map .c]⟩), (56, ⟨true, 3, 1, rA iPV ((n.fields.map (·.type)).take q.1)⟩)]) 800 (fun q => n.fields.length - q.1) ⟨0, Nat.zero_le _⟩ ?_ ?_
    · simp only [rA_len, rA_sc, rA_nil, ncells_mk, Weak, eq_self, used_is, sc_any, sc_c, sc_pp, sc_ref, sc_row, sc_agg, sc_fn, ScL, some_imp, List.forall_mem_map, go_sem, Int.reduceBEq, Int.reduceLE, Int.reduceLT, Int.reduceNeg, Nat.reduceAdd, Nat.reduceEqDiff, Nat.reduceLT, Nat.reduceLeDiff, Nat.reduceMul, Nat.reduceSub, reduceCtorEq, ↓reduceIte]
      try simp
    rintro ⟨i, hi⟩
    simp only []
    refine walkGF (@ncells_mk) ?_
    refine VC.cond (by rfl) (by trivial) (fun hc => ?_) (fun hc => ?_)
    · have hlt : i < n.fields.length := by simp at hc; omega
      obtain ⟨f, hx⟩ : ∃ f, n.fields[i]? = some f := ⟨n.fields[i], List.getElem?_eq_getElem hlt⟩
      have hw : IntKind.i64.wrap ((i : Int) + 1) = (i : Int) + 1 := wrap64_id (by omega) (by omega)
      have hxp : (n.fields.map FT.cells)[i]? = some f.cells := by rw [List.getElem?_map, hx]; rfl
      have hl : (rA iPV ((n.fields.map (·.type)).take i)).length = i := by rw [rA_len]; simp; omega
      have hr : rA iPV ((n.fields.map (·.type)).take i) ++ [[.c (.v (.int .i64 f.type))]] = rA iPV ((n.fields.map (·.type)).take (i + 1)) := by
        rw [List.take_add_one, List.getElem?_map, hx]
        exact rA_one iPV _ f.type
      have hl2 : (rA iPV ((n.fields.map (·.type)).take (i + 1))).length = i + 1 := by rw [rA_len]; simp; omega
      refine walkGF (And.intro @ncells_mk (And.intro hxp (And.intro @fcells_mk (And.intro @len_cells (And.intro @take_cells (And.intro @take_cellsC (And.intro hl (And.intro hr hw)))))))) ?_
      refine .next ⟨i + 1, by omega⟩ ?_ (by simp only []; omega)
      simp only [hl2, rA_sc, ncells_mk, Weak, eq_self, used_is, sc_any, sc_c, sc_pp, sc_ref, sc_row, sc_agg, sc_fn, ScL, some_imp, List.forall_mem_map, go_sem, Int.reduceBEq, Int.reduceLE, Int.reduceLT, Int.reduceNeg, Nat.reduceAdd, Nat.reduceEqDiff, Nat.reduceLT, Nat.reduceLeDiff, Nat.reduceMul, Nat.reduceSub, reduceCtorEq, ↓reduceIte]
      exact ⟨cI (by omega), Nat.le_refl _⟩
    · have hie : i = n.fields.length := by simp at hc; omega
      have htk : (n.fields.map (·.type)).take i = n.fields.map (·.type) := List.take_of_length_le (by simp; omega)
      rw [htk]
      refine walkBF (And.intro hie @ncells_mk) ?_
      refine ⟨by first | exact .inr rfl | exact .inl rfl, ?_⟩; rw [Tryz.results155]; simp only [resOk, resV, go_sem, Int.reduceBEq, Int.reduceLE, Int.reduceLT, Int.reduceNeg, Nat.reduceAdd, Nat.reduceEqDiff, Nat.reduceLT, Nat.reduceLeDiff, Nat.reduceMul, Nat.reduceSub, reduceCtorEq, ↓reduceIte]
      apply frz_rA (f := iPV) (l := n.fields.map (·.type)) (T := 3)
      · rfl
      · simp [hie]
      · rfl
      · simp [iPV]
  by_cases h11 : n.kind = 11
  · rw [if_neg h9, if_pos (.inl h11)] at hL
    subst hL
    rw [h11]
    refine walkB ?_
    refine ⟨by first | exact .inr rfl | exact .inl rfl, ?_⟩; rw [Tryz.results155]; simp only [resOk, resV, go_sem, Int.reduceBEq, Int.reduceLE, Int.reduceLT, Int.reduceNeg, Nat.reduceAdd, Nat.reduceEqDiff, Nat.reduceLT, Nat.reduceLeDiff, Nat.reduceMul, Nat.reduceSub, reduceCtorEq, ↓reduceIte]
    exact frz_rA (f := iPV) (l := [n.items]) rfl rfl rfl (by simp [iPV])
  by_cases h12 : n.kind = 12
  · rw [if_neg h9, if_pos (.inr h12)] at hL
    subst hL
    rw [h12]
    refine walkB ?_
    refine ⟨by first | exact .inr rfl | exact .inl rfl, ?_⟩; rw [Tryz.results155]; simp only [resOk, resV, go_sem, Int.reduceBEq, Int.reduceLE, Int.reduceLT, Int.reduceNeg, Nat.reduceAdd, Nat.reduceEqDiff, Nat.reduceLT, Nat.reduceLeDiff, Nat.reduceMul, Nat.reduceSub, reduceCtorEq, ↓reduceIte]
    exact frz_rA (f := iPV) (l := [n.items]) rfl rfl rfl (by simp [iPV])
  by_cases h13 : n.kind = 13
  · rw [if_neg h9, if_neg (by simp [h11, h12]), if_pos h13] at hL
    subst hL
    rw [h13]
    refine walkB ?_
    refine ⟨by first | exact .inr rfl | exact .inl rfl, ?_⟩; rw [Tryz.results155]; simp only [resOk, resV, go_sem, Int.reduceBEq, Int.reduceLE, Int.reduceLT, Int.reduceNeg, Nat.reduceAdd, Nat.reduceEqDiff, Nat.reduceLT, Nat.reduceLeDiff, Nat.reduceMul, Nat.reduceSub, reduceCtorEq, ↓reduceIte]
    refine frz_rA (f := iPV) (l := n.branches) (T := 3) ?_ ?_ rfl (by simp [iPV])
    · simp [upd_at, rA_pv]
    · simp
  · rw [if_neg h9, if_neg (by simp [h11, h12]), if_neg h13] at hL
    subst hL
    have e9 : (n.kind == 9) = false := by simpa using h9
    have e11 : (n.kind == 11) = false := by simpa using h11
    have e12 : (n.kind == 12) = false := by simpa using h12
    have e13 : (n.kind == 13) = false := by simpa using h13
    refine walkBF (And.intro e9 (And.intro e11 (And.intro e12 e13))) ?_
    refine ⟨by first | exact .inr rfl | exact .inl rfl, ?_⟩; rw [Tryz.results155]; simp only [resOk, resV, go_sem, Int.reduceBEq, Int.reduceLE, Int.reduceLT, Int.reduceNeg, Nat.reduceAdd, Nat.reduceEqDiff, Nat.reduceLT, Nat.reduceLeDiff, Nat.reduceMul, Nat.reduceSub, reduceCtorEq, ↓reduceIte]
    exact .nil _
set_option maxRecDepth 100000 in
set_option maxHeartbeats 1600000 in
theorem met_told (s : ST) (hl : s.nodes.length ≤ 1000000) (hs : ∀ n ∈ s.nodes, n.sm 1000000) : ∀ (d : Nat) (z : Int), z = 33 - (d : Int) → d ≤ 33 → ∀ p : Nat, p ≤ s.nodes.length →
    Told Tryz.prog 208 [s.av, .c (.v (.int .i64 (p : Int))), .c (.v (.int .i64 z))] (.c (.v (.int .i64 (metM s.nodes d p)))) := by
  intro d
  induction d with
  | zero =>
    intro z hz hd p hp
    have hz2 : decide (z > 32) = true := by simp; omega
    have hm : metM s.nodes 0 p = -1 := by simp [metM, walkM]
    rw [hm, ST.av_eq, scells_mk]
    refine VC.told ent_208 Tryz.func208 rfl Tryz.ntmps208 (by simp) (by first | rfl | simp [AV.pureB, AV.pureL, pureL_c, pures]) (by first | rfl | simp [AV.pureB, AV.pureL, pureL_c, pures]) fun hb => ?_
    clear hb
    refine walkGF (hz2) ?_
    refine VC.cond (by rfl) (by trivial) (fun hc => ?_) (fun hc => ?_)
    · refine walkG ?_
      refine ⟨by first | exact .inr rfl | exact .inl rfl, ?_⟩; rw [Tryz.results208]; simp only [resOk, resV, go_sem, Int.reduceBEq, Int.reduceLE, Int.reduceLT, Int.reduceNeg, Nat.reduceAdd, Nat.reduceEqDiff, Nat.reduceLT, Nat.reduceLeDiff, Nat.reduceMul, Nat.reduceSub, reduceCtorEq, ↓reduceIte]
      exact .c _
    · exact absurd hc (by simp)
  | succ d ih =>
    intro z hz hd p hp
    have hz2 : decide (z > 32) = false := by simp; omega
    have hwz : IntKind.i64.wrap (z + 1) = z + 1 := wrap64_id (by omega) (by omega)
    have hI := ih (z + 1) (by omega) (by omega)
    clear ih
    obtain ⟨V, hV⟩ : ∃ V, V = metM s.nodes (d + 1) p := ⟨_, rfl⟩
    rw [← hV]
    unfold metM at hV
    obtain ⟨R, hR⟩ : ∃ R, R = walkM s.nodes (d + 1) p := ⟨_, rfl⟩
    rw [← hR] at hV
    rw [walkM] at hR
    have hle := walkM_le s.nodes d
    rw [ST.av_eq, scells_mk]
    simp only [ST.av_eq, scells_mk, List.map_cons, List.map_nil] at hI
    by_cases hlt : p < s.nodes.length
    · obtain ⟨n, hn⟩ : ∃ n, s.nodes[p]? = some n := ⟨s.nodes[p], List.getElem?_eq_getElem hlt⟩
      have hnp : (s.nodes.map NT.cells)[p]? = some n.cells := by rw [List.getElem?_map, hn]; rfl
      have hge : decide ((p : Int) ≥ (s.nodes.length : Int)) = false := by simp; omega
      have hwp : IntKind.i64.wrap ((p : Int) + 1) = ((p + 1 : Nat) : Int) := by rw [wrap64_id (by omega) (by omega)]; rfl
      have hns := hs n (List.mem_of_getElem? hn)
      have hKi := rkids_told n hns
      have hkl := kids_len hns
      rw [hn] at hR
      simp only [] at hR
      obtain ⟨ks, hks⟩ : ∃ ks, ks = kidsN n := ⟨_, rfl⟩
      rw [← hks] at hKi hR hkl
      simp only [NT.av_eq] at hKi
      clear hks
      refine VC.told ent_208 Tryz.func208 rfl Tryz.ntmps208 (by simp) (by first | rfl | simp [AV.pureB, AV.pureL, pureL_c, pures]) (by first | rfl | simp [AV.pureB, AV.pureL, pureL_c, pures]) fun hb => ?_
      clear hb
      refine walkGF (And.intro hge hz2) ?_
      refine VC.cond (by rfl) (by trivial) (fun hc => ?_) (fun hc => ?_)
      · exact absurd hc (by simp)
      refine walkGF (And.intro hwp (And.intro hnp (And.intro @len_ncells (And.intro @take_ncells @take_ncellsC)))) ?_
      refine walkCF (@pureL_c) (hKi) ?_
      refine walkG ?_
      clear hKi
      refine VC.loop (ι := {x : Nat × Nat // x.1 ≤ ks.length ∧ x.2 ≤ s.nodes.length ∧ walkK s.nodes (walkM s.nodes d) (ks.drop x.1) x.2 = R})
        (fun q => [(2, .c (.v (.int .i64 z))), (3, .ref 0 1 0 0), (7, .c (.v (.int .i64 (q.1.2 : Int)))), (8, .c (.sl 1 (ks.map iPV))), (9, .c (.v (.int .i64 (q.1.1 : Int))))])
        (fun q => [(0, ⟨false, 24, 2, [[.c (.sl 10 (s.nodes.map NT.cells)), .c (.v (.int .i64 s.root))]]⟩)]) 800 (fun q => ks.length - q.1.1) ⟨(0, p + 1), Nat.zero_le _, hlt, by rw [List.drop_zero]; exact hR.symm⟩ ?_ ?_
      · simp only [Weak, eq_self, used_is, sc_any, sc_c, sc_pp, sc_ref, sc_row, sc_agg, sc_fn, ScL, some_imp, List.forall_mem_map, go_sem, Int.reduceBEq, Int.reduceLE, Int.reduceLT, Int.reduceNeg, Nat.reduceAdd, Nat.reduceEqDiff, Nat.reduceLT, Nat.reduceLeDiff, Nat.reduceMul, Nat.reduceSub, reduceCtorEq, ↓reduceIte]
        try simp
      clear hR
      rintro ⟨⟨i, q⟩, hi, hq, hR⟩
      simp only [] at hi hq hR ⊢
      refine walkG ?_
      refine VC.cond (by rfl) (by trivial) (fun hc2 => ?_) (fun hc2 => ?_)
      · have hil : i < ks.length := by simp at hc2; omega
        obtain ⟨x, hx⟩ : ∃ x, ks[i]? = some x := ⟨ks[i], List.getElem?_eq_getElem hil⟩
        have hxp : (ks.map iPV)[i]? = some (iPV x) := by rw [List.getElem?_map, hx]; rfl
        have hw : IntKind.i64.wrap ((i : Int) + 1) = (i : Int) + 1 := wrap64_id (by omega) (by omega)
        rw [drop_at' hx, walkK] at hR
        by_cases hx0 : x < 0
        · have hf : R = (false, q) := by
            rw [if_neg (by omega), if_pos (.inl hx0)] at hR
            exact hR.symm
          subst hf
          obtain rfl : V = -1 := hV
          have e0 : decide (x < 0) = true := by simpa using hx0
          refine walkBF (And.intro hxp (And.intro @iPV_eq e0)) ?_
          refine ⟨by first | exact .inr rfl | exact .inl rfl, ?_⟩; rw [Tryz.results208]; simp only [resOk, resV, go_sem, Int.reduceBEq, Int.reduceLE, Int.reduceLT, Int.reduceNeg, Nat.reduceAdd, Nat.reduceEqDiff, Nat.reduceLT, Nat.reduceLeDiff, Nat.reduceMul, Nat.reduceSub, reduceCtorEq, ↓reduceIte]
          exact .c _
        have e0 : decide (x < 0) = false := by simpa using hx0
        by_cases hxq : x > (q : Int)
        · have hf : R = (false, q) := by
            rw [if_neg (by omega), if_pos (.inr (.inl hxq))] at hR
            exact hR.symm
          subst hf
          obtain rfl : V = -1 := hV
          have e1 : decide (x > (q : Int)) = true := by simpa using hxq
          refine walkBF (And.intro hxp (And.intro @iPV_eq (And.intro e0 e1))) ?_
          refine ⟨by first | exact .inr rfl | exact .inl rfl, ?_⟩; rw [Tryz.results208]; simp only [resOk, resV, go_sem, Int.reduceBEq, Int.reduceLE, Int.reduceLT, Int.reduceNeg, Nat.reduceAdd, Nat.reduceEqDiff, Nat.reduceLT, Nat.reduceLeDiff, Nat.reduceMul, Nat.reduceSub, reduceCtorEq, ↓reduceIte]
          exact .c _
        have e1 : decide (x > (q : Int)) = false := by simpa using hxq
        by_cases hk : x = (q : Int)
        · rw [if_pos hk] at hR
          subst hk
          have e2 : decide ((q : Int) < (q : Int)) = false := by simp
          have hkq : ((q : Int) == (q : Int)) = true := by simp
          have hIq := hI q hq
          have hqb := (hle q hq).2
          obtain ⟨D, hD⟩ : ∃ D, D = metM s.nodes d q := ⟨_, rfl⟩
          rw [← hD] at hIq
          unfold metM at hD
          obtain ⟨M, hM⟩ : ∃ M, M = walkM s.nodes d q := ⟨_, rfl⟩
          rw [← hM] at hD hR hqb
          clear hI hM
          refine walkBF (And.intro hxp (And.intro @iPV_eq (And.intro hkq (And.intro hwz (And.intro e0 (And.intro e1 e2)))))) ?_
          refine walkC (hIq) ?_
          cases hm1 : M.1 with
          | false =>
            rw [hm1, if_neg (by simp)] at hD hR
            subst hR
            obtain rfl : V = -1 := hV
            subst hD
            refine walkB ?_
            refine ⟨by first | exact .inr rfl | exact .inl rfl, ?_⟩; rw [Tryz.results208]; simp only [resOk, resV, go_sem, Int.reduceBEq, Int.reduceLE, Int.reduceLT, Int.reduceNeg, Nat.reduceAdd, Nat.reduceEqDiff, Nat.reduceLT, Nat.reduceLeDiff, Nat.reduceMul, Nat.reduceSub, reduceCtorEq, ↓reduceIte]
            exact .c _
          | true =>
            rw [hm1, if_pos rfl] at hD hR
            subst hD
            have e3 : decide (((M.2 : Nat) : Int) < 0) = false := by simp
            refine walkBF (And.intro e3 hw) ?_
            refine .next ⟨(i + 1, M.2), by simp only []; omega, hqb, hR⟩ ?_ (by simp only []; omega)
            simp only [Weak, eq_self, used_is, sc_any, sc_c, sc_pp, sc_ref, sc_row, sc_agg, sc_fn, ScL, some_imp, List.forall_mem_map, go_sem, Int.reduceBEq, Int.reduceLE, Int.reduceLT, Int.reduceNeg, Nat.reduceAdd, Nat.reduceEqDiff, Nat.reduceLT, Nat.reduceLeDiff, Nat.reduceMul, Nat.reduceSub, reduceCtorEq, ↓reduceIte]
            try exact cI (by omega)
        · rw [if_neg hk] at hR
          have e2 : decide (x < (q : Int)) = true := by simp; omega
          have hkq : (x == (q : Int)) = false := by simpa using hk
          obtain ⟨j, rfl⟩ : ∃ j : Nat, x = (j : Int) := ⟨x.toNat, by omega⟩
          have hj : j < s.nodes.length := by omega
          obtain ⟨m, hm⟩ : ∃ m, s.nodes[j]? = some m := ⟨s.nodes[j], List.getElem?_eq_getElem hj⟩
          have hmp : (s.nodes.map NT.cells)[j]? = some m.cells := by rw [List.getElem?_map, hm]; rfl
          have hka : kindAt s.nodes ((j : Int)).toNat = m.kind := by rw [Int.toNat_natCast, kindAt, hm]
          rw [hka] at hR
          have hN := rnamed10_told m.kind
          refine walkBF (And.intro hxp (And.intro @iPV_eq (And.intro hkq (And.intro e0 (And.intro e1 (And.intro e2 (And.intro hmp @ncells_mk))))))) ?_
          refine walkC (hN) ?_
          refine walkGF (hkq) ?_
          refine VC.cond (by rfl) (by trivial) (fun hc3 => ?_) (fun hc3 => ?_)
          · have hf : R = (false, q) := by
              rw [if_pos (.inr (.inr (by simpa using hc3)))] at hR
              exact hR.symm
            subst hf
            obtain rfl : V = -1 := hV
            refine walkG ?_
            refine ⟨by first | exact .inr rfl | exact .inl rfl, ?_⟩; rw [Tryz.results208]; simp only [resOk, resV, go_sem, Int.reduceBEq, Int.reduceLE, Int.reduceLT, Int.reduceNeg, Nat.reduceAdd, Nat.reduceEqDiff, Nat.reduceLT, Nat.reduceLeDiff, Nat.reduceMul, Nat.reduceSub, reduceCtorEq, ↓reduceIte]
            exact .c _
          · have hnn : namedK m.kind = true := by simpa using hc3
            have hno : ¬ ((j : Int) < 0 ∨ (j : Int) > (q : Int) ∨ namedK m.kind = false) := by
              rintro (h | h | h)
              · exact hx0 h
              · exact hxq h
              · rw [hnn] at h
                exact absurd h (by simp)
            rw [if_neg hno] at hR
            refine walkBF (And.intro hw hkq) ?_
            refine .next ⟨(i + 1, q), by simp only []; omega, hq, hR⟩ ?_ (by simp only []; omega)
            simp only [Weak, eq_self, used_is, sc_any, sc_c, sc_pp, sc_ref, sc_row, sc_agg, sc_fn, ScL, some_imp, List.forall_mem_map, go_sem, Int.reduceBEq, Int.reduceLE, Int.reduceLT, Int.reduceNeg, Nat.reduceAdd, Nat.reduceEqDiff, Nat.reduceLT, Nat.reduceLeDiff, Nat.reduceMul, Nat.reduceSub, reduceCtorEq, ↓reduceIte]
            try exact cI (by omega)
      · have hie : i = ks.length := by simp at hc2; omega
        have hf : R = (true, q) := by
          rw [hie, List.drop_length, walkK] at hR
          exact hR.symm
        subst hf
        obtain rfl : V = (q : Int) := hV
        refine walkG ?_
        refine ⟨by first | exact .inr rfl | exact .inl rfl, ?_⟩; rw [Tryz.results208]; simp only [resOk, resV, go_sem, Int.reduceBEq, Int.reduceLE, Int.reduceLT, Int.reduceNeg, Nat.reduceAdd, Nat.reduceEqDiff, Nat.reduceLT, Nat.reduceLeDiff, Nat.reduceMul, Nat.reduceSub, reduceCtorEq, ↓reduceIte]
        exact .c _
    · have hR : R = (false, p) := by
        rw [hR, List.getElem?_eq_none (by omega)]
      subst hR
      obtain rfl : V = -1 := hV
      have hge : decide ((p : Int) ≥ (s.nodes.length : Int)) = true := by simp; omega
      refine VC.told ent_208 Tryz.func208 rfl Tryz.ntmps208 (by simp) (by first | rfl | simp [AV.pureB, AV.pureL, pureL_c, pures]) (by first | rfl | simp [AV.pureB, AV.pureL, pureL_c, pures]) fun hb => ?_
      clear hb
      refine walkGF (hge) ?_
      refine VC.cond (by rfl) (by trivial) (fun hc => ?_) (fun hc => ?_)
      · refine walkG ?_
        refine ⟨by first | exact .inr rfl | exact .inl rfl, ?_⟩; rw [Tryz.results208]; simp only [resOk, resV, go_sem, Int.reduceBEq, Int.reduceLE, Int.reduceLT, Int.reduceNeg, Nat.reduceAdd, Nat.reduceEqDiff, Nat.reduceLT, Nat.reduceLeDiff, Nat.reduceMul, Nat.reduceSub, reduceCtorEq, ↓reduceIte]
        exact .c _
      · exact absurd hc (by simp)
set_option maxRecDepth 100000 in
set_option maxHeartbeats 800000 in
theorem rordered_told (s : ST) (hl : s.nodes.length ≤ 1000000) (hs : ∀ n ∈ s.nodes, n.sm 1000000) : Told Tryz.prog 122 [s.av] (.c (.v (.bool (orderedM s)))) := by
  have hW := met_told s hl hs 33 0 (by omega) (by omega) 0 (Nat.zero_le _)
  obtain ⟨D, hD⟩ : ∃ D, D = metM s.nodes 33 0 := ⟨_, rfl⟩
  rw [← hD] at hW
  unfold metM at hD
  have hle := walkM_le s.nodes 33 0 (Nat.zero_le _)
  have hv : orderedM s = (decide ((s.nodes.length : Int) ≥ 1) && decide ((s.nodes.length : Int) ≤ 200) && (s.root == 0) && (D == (s.nodes.length : Int))) := by
    have e1 : decide ((s.nodes.length : Int) ≥ 1) = decide (0 < s.nodes.length) := by simp; omega
    have e2 : decide ((s.nodes.length : Int) ≤ 200) = decide (s.nodes.length ≤ 200) := by simp; omega
    have e3 : (s.root == 0) = decide (s.root = 0) := by by_cases h : s.root = 0 <;> simp [h]
    have e4 : (D == (s.nodes.length : Int)) = ((walkM s.nodes 33 0).1 && decide ((walkM s.nodes 33 0).2 = s.nodes.length)) := by
      rw [hD]
      cases h1 : (walkM s.nodes 33 0).1 with
      | false =>
        simp
      | true =>
        by_cases h : (walkM s.nodes 33 0).2 = s.nodes.length
        · simp [h]
        · have : ¬ (((walkM s.nodes 33 0).2 : Int) = (s.nodes.length : Int)) := by omega
          simp [h, this]
    rw [orderedM, e1, e2, e3, e4]
    simp only [Bool.and_assoc]
  obtain ⟨V, hV⟩ : ∃ V, V = orderedM s := ⟨_, rfl⟩
  rw [← hV] at hv ⊢
  clear hV hD hle
  replace hv := Lib.hid hv
  simp only [ST.av_eq, scells_mk, List.map_cons, List.map_nil] at hW
  rw [ST.av_eq, scells_mk]
  rw [show ((0 : Nat) : Int) = 0 from rfl] at hW
  refine VC.told ent_122 Tryz.func122 rfl Tryz.ntmps122 (by simp) (by first | rfl | simp [AV.pureB, AV.pureL, pureL_c, pures]) (by first | rfl | simp [AV.pureB, AV.pureL, pureL_c, pures]) fun hb => ?_
  clear hb
  refine walkG ?_
  refine walkD (hW) ?_
  refine walkG ?_
  refine ⟨by first | exact .inr rfl | exact .inl rfl, ?_⟩; rw [Tryz.results122]; simp only [resOk, resV, go_sem, Int.reduceBEq, Int.reduceLE, Int.reduceLT, Int.reduceNeg, Nat.reduceAdd, Nat.reduceEqDiff, Nat.reduceLT, Nat.reduceLeDiff, Nat.reduceMul, Nat.reduceSub, reduceCtorEq, ↓reduceIte]
  rw [hv.out]
  exact .c _

set_option maxRecDepth 100000 in
set_option maxHeartbeats 800000 in
theorem pair_told (k x : List UInt8) (hk : k.length ≤ 1000000) (hx : x.length ≤ 1000000000) : Told Tryz.prog 196 [.c (.v (.string (str k))), .c (.v (.string (str x)))] (.c (.v (.string (str (mQuote k ++ [58] ++ x))))) := by
  have hQ := rquote_told k (by omega)
  have hql := quote_len k
  generalize mQuote k = m at hQ hql ⊢
  unfold str at *
  refine VC.told ent_196 Tryz.func196 rfl Tryz.ntmps196 (by simp) (by first | rfl | simp [AV.pureB, AV.pureL, pureL_c, pures]) (by first | rfl | simp [AV.pureB, AV.pureL, pureL_c, pures]) fun hb => ?_
  clear hb
  refine walkG ?_
  refine walkC (hQ) ?_
  (repeat (first | refine pass ?_ | refine VC.region (by rfl) (by rfl) ?_ | (refine AO.step fun K hK => ?_; simp only [bsz', str_add, List.length_append, List.length_cons, List.length_nil, go_sem, Int.reduceBEq, Int.reduceLE, Int.reduceLT, Int.reduceNeg, Nat.reduceAdd, Nat.reduceEqDiff, Nat.reduceLT, Nat.reduceLeDiff, Nat.reduceMul, Nat.reduceSub, reduceCtorEq, ↓reduceIte]; (first | refine gsel_skip ?_ | refine gsel_go ?_ | skip); (first | refine hK _ _ _ ?_ | refine ⟨by first | omega | exact ⟨_, rfl, rfl⟩ | exact fun _ => ⟨_, rfl, rfl⟩ | (intro h; simp only [bsz', str_add, List.length_append, List.length_cons, List.length_nil, h, true_and]; omega) | (clear hK; intro h; simp_all <;> omega), hK _ _ _ ?_⟩); clear hK K) | refine VC.draw mixP (by rfl) (by rfl) ?_ | refine ⟨okd_of (by kernel_rfl), ?_⟩ | refine BQ.other (by decide) ?_ | refine VC.seq ?_ | refine AO.nil ?_ | refine VC.block ?_))
  refine ⟨by first | exact .inr rfl | exact .inl rfl, ?_⟩; rw [Tryz.results196]; simp only [resOk, resV, go_sem, Int.reduceBEq, Int.reduceLE, Int.reduceLT, Int.reduceNeg, Nat.reduceAdd, Nat.reduceEqDiff, Nat.reduceLT, Nat.reduceLeDiff, Nat.reduceMul, Nat.reduceSub, reduceCtorEq, ↓reduceIte]
  exact .c _
end
end Go.Proofs.YtkaogeogjjcdhaaGreatDoor
