/- Texts that lead to the law ValueParts, joined. -/
import Derived.Test.YtmooihlndkgdaaaGreatDoorPkValuePartsC
import Derived.Test.YtmooihlndkgdaaaGreatDoorPkValuePartsB
import Derived.Test.YtmooihlndkgdaaaGreatDoorPkValuePartsA
import Derived.Test.YtmooihlndkgdaaaGreatDoorPkValuePartsXAbB
import Derived.ProofKit
import Derived.OpenShut
import Derived.ChangeOld
import Derived.Below
namespace Go.Proofs.YtmooihlndkgdaaaGreatDoor
open Go.RowKit
set_option linter.unusedVariables false
set_option linter.unusedSimpArgs false
section
attribute [local go_sem] opx opE ev okx gcond bnd okO AV.get AV.okb cAV upd_at putd_some putd_none wrs_nil wrs_cons look_nil look_cons st argT_at bpick_and bpick_or bpick_true bpick_false binV binI binS binVOk binOk isShift binSOk unV unVOk loadV loadP cellsA zeroA Blkd.len setE grown moreA moreR moreOk eqRes pv fillA fillE putSeg AV.cellish AV.pureL AV.pureB lentL_is ex_some AV.ren AV.renL renL_c Blkd.ren rho wrM renN lentOk rhoE keepM endOk tyA_2 tyA_3 tyA_4 tyA_5 tyA_6 tyA_7 tyA_8 tyA_9 tyA_10 tyA_11 tyA_12 tyA_13 tyA_14 tyA_15 tyA_16 tyA_17 tyA_18 tyA_19 tyA_21 tyA_22 tyA_23 tyA_24 tyA_29 tyA_30 tyA_31 tyA_32 tyA_33 tyA_34 tyA_35 tyA_36 tyA_37 tyA_38 tyA_39 tyA_40 tyA_41 tyA_42 tyA_43 tyA_51 tyA_73 tyA_77 tyA_99 tyA_100 tyA_101 tyA_114 tyA_120 tyA_121 tyA_122 tyA_131 tyA_132 tyA_133 tyA_134 tyA_135 tyA_138 tyA_139 tyA_140 tyA_149 tyA_163 tyA_168 tyA_210 tyA_212 tyA_219 tyA_227 tyA_231 tyA_233 tyA_237 tyA_238 tyA_239 tyA_240 tyA_241 tyA_243 tyA_244 tyA_246 tyA_247 tyA_248 tyA_251 Option.map_some Option.map_none Option.getD_some Option.getD_none Option.bind_some Option.bind_none List.getElem?_cons_zero List.getElem?_cons_succ List.getElem?_nil List.getElem?_toArray List.length_cons List.length_nil List.length_map List.forall_mem_map List.map_cons List.map_nil List.drop_zero List.drop_succ_cons List.drop_nil List.take_zero List.take_succ_cons List.take_nil List.mem_cons List.not_mem_nil or_false forall_eq_or_imp forall_eq List.set_cons_zero List.set_cons_succ List.cons_append List.nil_append List.append_nil List.foldl_cons List.foldl_nil List.replicate_succ List.replicate_zero List.all_cons List.all_nil if_true if_false Bool.false_eq_true ne_eq not_false_eq_true not_true_eq_false true_and and_true and_self true_implies imp_self implies_true forall_const beq_self_eq_true Bool.and_true Bool.true_and Bool.and_false Bool.false_and Bool.or_true Bool.true_or Bool.or_false Bool.false_or Bool.not_true Bool.not_false Bool.not_eq_eq_eq_not intKindOf Value.oneCell' Int.toNat_natCast beq_true beq_false Bool.not_eq_true false_implies false_or true_or or_true Nat.zero_add Nat.add_zero decide_true decide_false Int.cast_ofNat_Int Int.toNat_zero Int.toNat_one eq_self

def KnOk (kn : List Int) : Prop := ∀ x ∈ kn, -1 ≤ x ∧ x ≤ 1001
theorem KnOk.set {kn : List Int} (h : KnOk kn) (p : Nat) {v : Int} (hv : -1 ≤ v ∧ v ≤ 1001) : KnOk (kn.set p v) := fun x hx => by
  rcases List.mem_or_eq_of_mem_set hx with h1 | rfl
  · exact h x h1
  · exact hv
theorem count_set_le {kn : List Int} (p : Nat) {v : Int} (hv : v ≠ 0) : (kn.set p v).count 0 ≤ kn.count 0 := by
  by_cases hp : p < kn.length
  · rw [List.count_set hp]
    have : (v == 0) = false := by simpa using hv
    simp [this]
  · rw [List.set_eq_of_length_le (by omega)]
    exact Nat.le_refl _
theorem count_set_lt {kn : List Int} {p : Nat} {v : Int} (hp : kn[p]? = some 0) (hv : v ≠ 0) : (kn.set p v).count 0 < kn.count 0 := by
  obtain ⟨hlt, h0⟩ := List.getElem?_eq_some_iff.1 hp
  rw [List.count_set hlt]
  have : (v == 0) = false := by simpa using hv
  have hpos : 0 < kn.count 0 := List.count_pos_iff.2 (h0 ▸ List.getElem_mem hlt)
  simp [this, h0]
  omega
theorem weighK_ok (f : Nat → List Int → Int × List Int) (N : Nat) (hf : ∀ q kn, kn.length = N → KnOk kn → (f q kn).2.length = N ∧ KnOk (f q kn).2 ∧ (f q kn).2.count 0 ≤ kn.count 0 ∧ 1 ≤ (f q kn).1 ∧ (f q kn).1 ≤ 1001) :
    ∀ (xs : List FT) (n : Int) (kn : List Int), kn.length = N → KnOk kn → 1 ≤ n → n ≤ 1001 → (weighK f xs n kn).2.length = N ∧ KnOk (weighK f xs n kn).2 ∧ (weighK f xs n kn).2.count 0 ≤ kn.count 0 ∧ 1 ≤ (weighK f xs n kn).1 ∧ (weighK f xs n kn).1 ≤ 1001
  | [], n, kn, h1, h2, h3, h4 => ⟨h1, h2, Nat.le_refl _, h3, h4⟩
  | x :: xs, n, kn, h1, h2, h3, h4 => by
    rw [weighK]
    obtain ⟨a1, a2, a3, a4, a5⟩ := hf x.type.toNat kn h1 h2
    obtain ⟨b1, b2, b3, b4, b5⟩ := weighK_ok f N hf xs (min (n + (f x.type.toNat kn).1) 1001) (f x.type.toNat kn).2 a1 a2 (by omega) (by omega)
    exact ⟨b1, b2, by omega, b4, b5⟩
theorem knAt_of {kn : List Int} {p : Nat} {v : Int} (h : kn[p]? = some v) : knAt kn p = v := by rw [knAt, h]
theorem weighM_ok (ns : List NT) : ∀ (d q : Nat) (kn : List Int), kn.length = ns.length → KnOk kn → (weighM ns d q kn).2.length = ns.length ∧ KnOk (weighM ns d q kn).2 ∧ (weighM ns d q kn).2.count 0 ≤ kn.count 0 ∧ 1 ≤ (weighM ns d q kn).1 ∧ (weighM ns d q kn).1 ≤ 1001
  | 0, q, kn, h1, h2 => ⟨h1, h2, Nat.le_refl _, (by decide : (1 : Int) ≤ 1001), (by decide : (1001 : Int) ≤ 1001)⟩
  | d + 1, q, kn, h1, h2 => by
    rw [weighM]
    split
    · exact ⟨h1, h2, Nat.le_refl _, (by decide : (1 : Int) ≤ 1001), (by decide : (1001 : Int) ≤ 1001)⟩
    · split
      · rename_i h3 h4
        refine ⟨h1, h2, Nat.le_refl _, by omega, ?_⟩
        unfold knAt
        split
        · rename_i v hv
          exact (h2 v (List.mem_of_getElem? hv)).2
        · exact (by decide : (0 : Int) ≤ 1001)
      · obtain ⟨b1, b2, b3, b4, b5⟩ := weighK_ok (weighM ns d) ns.length (weighM_ok ns d) (fieldsAt ns q) 1 (kn.set q (-1)) (by rw [List.length_set]; exact h1) (h2.set q (by decide)) (by decide) (by decide)
        have c1 := count_set_le (kn := kn) q (v := -1) (by decide)
        have c2 := count_set_le (kn := (weighK (weighM ns d) (fieldsAt ns q) 1 (kn.set q (-1))).2) q (v := (weighK (weighM ns d) (fieldsAt ns q) 1 (kn.set q (-1))).1) (by omega)
        exact ⟨by rw [List.length_set]; exact b1, b2.set q (by omega), by simp only []; omega, b4, b5⟩
set_option maxRecDepth 100000 in
set_option maxHeartbeats 1600000 in
theorem weight_told (s : ST) (hl : s.nodes.length ≤ 1000000) (hs : ∀ n ∈ s.nodes, n.sm 1000000) (hr : ∀ n ∈ s.nodes, n.kind = 9 → ∀ f ∈ n.fields, 0 ≤ f.type ∧ f.type < (s.nodes.length : Int)) : ∀ (d p : Nat) (kn : List Int), p < s.nodes.length → kn.length = s.nodes.length → KnOk kn → kn.count 0 < d →
    ToldM Tryz.prog 63 [s.av, .c (.v (.int .i64 (p : Int))), .row 1000000 s.nodes.length] [⟨true, 3, 1, rA iPV kn⟩] [some ⟨true, 3, 1, rA iPV (weighM s.nodes d p kn).2⟩] (.c (.v (.int .i64 (weighM s.nodes d p kn).1))) := by
  intro d
  induction d with
  | zero => intro p kn _ _ _ h; omega
  | succ d ih =>
  intro p kn hp hk hko hc
  obtain ⟨R, hR⟩ : ∃ R, R = weighM s.nodes (d + 1) p kn := ⟨_, rfl⟩
  rw [← hR]
  rw [weighM] at hR
  obtain ⟨v, hv⟩ : ∃ v, kn[p]? = some v := ⟨kn[p]'(by omega), List.getElem?_eq_getElem (by omega)⟩
  rw [knAt_of hv] at hR
  have hvp : (rA iPV kn)[p]? = some [.c (.v (.int .i64 v))] := rA_at hv
  have hkl : (rA iPV kn).length = s.nodes.length := by rw [rA_len, hk]
  obtain ⟨N, hN⟩ : ∃ N, N = s.nodes.length := ⟨_, rfl⟩
  rw [ST.av_eq, scells_mk]
  by_cases hv0 : v < 0
  · rw [if_pos hv0] at hR
    subst hR
    have e0 : decide (v < 0) = true := by simpa using hv0
    refine VC.toldM ent_63 [] Tryz.func63 rfl Tryz.ntmps63 (by simp) (by simp only [ rA_len, rA_sc, hk, ScM, zOk, inL, eq_self, used_is, sc_any, sc_c, sc_pp, sc_ref, sc_row, sc_agg, sc_tup, sc_fn, ScL, some_imp, List.forall_mem_map, Nat.le_refl, go_sem, Int.reduceBEq, Int.reduceLE, Int.reduceLT, Int.reduceNeg, Nat.reduceAdd, Nat.reduceEqDiff, Nat.reduceLT, Nat.reduceLeDiff, Nat.reduceMul, Nat.reduceSub, reduceCtorEq, ↓reduceIte]) (by simp only [ rA_len, rA_sc, hk, ScM, zOk, inL, eq_self, used_is, sc_any, sc_c, sc_pp, sc_ref, sc_row, sc_agg, sc_tup, sc_fn, ScL, some_imp, List.forall_mem_map, Nat.le_refl, go_sem, Int.reduceBEq, Int.reduceLE, Int.reduceLT, Int.reduceNeg, Nat.reduceAdd, Nat.reduceEqDiff, Nat.reduceLT, Nat.reduceLeDiff, Nat.reduceMul, Nat.reduceSub, reduceCtorEq, ↓reduceIte]) (by simp only [ rA_len, rA_sc, hk, ScM, zOk, inL, eq_self, used_is, sc_any, sc_c, sc_pp, sc_ref, sc_row, sc_agg, sc_tup, sc_fn, ScL, some_imp, List.forall_mem_map, Nat.le_refl, go_sem, Int.reduceBEq, Int.reduceLE, Int.reduceLT, Int.reduceNeg, Nat.reduceAdd, Nat.reduceEqDiff, Nat.reduceLT, Nat.reduceLeDiff, Nat.reduceMul, Nat.reduceSub, reduceCtorEq, ↓reduceIte]) (by simp only [ rA_len, rA_sc, hk, ScM, zOk, inL, eq_self, used_is, sc_any, sc_c, sc_pp, sc_ref, sc_row, sc_agg, sc_tup, sc_fn, ScL, some_imp, List.forall_mem_map, Nat.le_refl, go_sem, Int.reduceBEq, Int.reduceLE, Int.reduceLT, Int.reduceNeg, Nat.reduceAdd, Nat.reduceEqDiff, Nat.reduceLT, Nat.reduceLeDiff, Nat.reduceMul, Nat.reduceSub, reduceCtorEq, ↓reduceIte]) (by simp) fun hb hbL => ?_
    clear hb hbL
    refine walkBF (And.intro hvp (And.intro hkl e0)) ?_
    refine ⟨by first | exact .inr rfl | exact .inl rfl, ?_⟩; rw [Tryz.results63]; simp only [rA_ren, resOk, resV, go_sem, Int.reduceBEq, Int.reduceLE, Int.reduceLT, Int.reduceNeg, Nat.reduceAdd, Nat.reduceEqDiff, Nat.reduceLT, Nat.reduceLeDiff, Nat.reduceMul, Nat.reduceSub, reduceCtorEq, ↓reduceIte]
    exact .c _
  have e0 : decide (v < 0) = false := by simpa using hv0
  rw [if_neg hv0] at hR
  by_cases hv1 : 0 < v
  · rw [if_pos hv1] at hR
    subst hR
    have e1 : decide (v > 0) = true := by simpa using hv1
    refine VC.toldM ent_63 [] Tryz.func63 rfl Tryz.ntmps63 (by simp) (by simp only [ rA_len, rA_sc, hk, ScM, zOk, inL, eq_self, used_is, sc_any, sc_c, sc_pp, sc_ref, sc_row, sc_agg, sc_tup, sc_fn, ScL, some_imp, List.forall_mem_map, Nat.le_refl, go_sem, Int.reduceBEq, Int.reduceLE, Int.reduceLT, Int.reduceNeg, Nat.reduceAdd, Nat.reduceEqDiff, Nat.reduceLT, Nat.reduceLeDiff, Nat.reduceMul, Nat.reduceSub, reduceCtorEq, ↓reduceIte]) (by simp only [ rA_len, rA_sc, hk, ScM, zOk, inL, eq_self, used_is, sc_any, sc_c, sc_pp, sc_ref, sc_row, sc_agg, sc_tup, sc_fn, ScL, some_imp, List.forall_mem_map, Nat.le_refl, go_sem, Int.reduceBEq, Int.reduceLE, Int.reduceLT, Int.reduceNeg, Nat.reduceAdd, Nat.reduceEqDiff, Nat.reduceLT, Nat.reduceLeDiff, Nat.reduceMul, Nat.reduceSub, reduceCtorEq, ↓reduceIte]) (by simp only [ rA_len, rA_sc, hk, ScM, zOk, inL, eq_self, used_is, sc_any, sc_c, sc_pp, sc_ref, sc_row, sc_agg, sc_tup, sc_fn, ScL, some_imp, List.forall_mem_map, Nat.le_refl, go_sem, Int.reduceBEq, Int.reduceLE, Int.reduceLT, Int.reduceNeg, Nat.reduceAdd, Nat.reduceEqDiff, Nat.reduceLT, Nat.reduceLeDiff, Nat.reduceMul, Nat.reduceSub, reduceCtorEq, ↓reduceIte]) (by simp only [ rA_len, rA_sc, hk, ScM, zOk, inL, eq_self, used_is, sc_any, sc_c, sc_pp, sc_ref, sc_row, sc_agg, sc_tup, sc_fn, ScL, some_imp, List.forall_mem_map, Nat.le_refl, go_sem, Int.reduceBEq, Int.reduceLE, Int.reduceLT, Int.reduceNeg, Nat.reduceAdd, Nat.reduceEqDiff, Nat.reduceLT, Nat.reduceLeDiff, Nat.reduceMul, Nat.reduceSub, reduceCtorEq, ↓reduceIte]) (by simp) fun hb hbL => ?_
    clear hb hbL
    refine walkBF (And.intro hvp (And.intro hkl (And.intro e0 e1))) ?_
    refine ⟨by first | exact .inr rfl | exact .inl rfl, ?_⟩; rw [Tryz.results63]; simp only [rA_ren, resOk, resV, go_sem, Int.reduceBEq, Int.reduceLE, Int.reduceLT, Int.reduceNeg, Nat.reduceAdd, Nat.reduceEqDiff, Nat.reduceLT, Nat.reduceLeDiff, Nat.reduceMul, Nat.reduceSub, reduceCtorEq, ↓reduceIte]
    exact .c _
  have e1 : decide (v > 0) = false := by simpa using hv1
  rw [if_neg hv1] at hR
  obtain rfl : v = 0 := by omega
  obtain ⟨n, hn⟩ : ∃ n, s.nodes[p]? = some n := ⟨s.nodes[p], List.getElem?_eq_getElem hp⟩
  have hnp : (s.nodes.map NT.cells)[p]? = some n.cells := by rw [List.getElem?_map, hn]; rfl
  have hns := hs n (List.mem_of_getElem? hn)
  have hfl := hns.2.2.2.2.2.1
  have hset : (rA iPV kn).set p [.c (.v (.int .i64 (-1)))] = rA iPV (kn.set p (-1)) := rA_set kn p (-1)
  have hfa : fieldsAt s.nodes p = if n.kind = 9 then n.fields else [] := by rw [fieldsAt, hn]
  obtain ⟨K0, hK0⟩ : ∃ K, K = weighK (weighM s.nodes d) (fieldsAt s.nodes p) 1 (kn.set p (-1)) := ⟨_, rfl⟩
  rw [← hK0] at hR
  subst hR
  have hct := count_set_lt (v := -1) hv (by decide)
  refine VC.toldM ent_63 [] Tryz.func63 rfl Tryz.ntmps63 (by simp) (by simp only [ rA_len, rA_sc, hk, ScM, zOk, inL, eq_self, used_is, sc_any, sc_c, sc_pp, sc_ref, sc_row, sc_agg, sc_tup, sc_fn, ScL, some_imp, List.forall_mem_map, Nat.le_refl, go_sem, Int.reduceBEq, Int.reduceLE, Int.reduceLT, Int.reduceNeg, Nat.reduceAdd, Nat.reduceEqDiff, Nat.reduceLT, Nat.reduceLeDiff, Nat.reduceMul, Nat.reduceSub, reduceCtorEq, ↓reduceIte]) (by simp only [ rA_len, rA_sc, hk, ScM, zOk, inL, eq_self, used_is, sc_any, sc_c, sc_pp, sc_ref, sc_row, sc_agg, sc_tup, sc_fn, ScL, some_imp, List.forall_mem_map, Nat.le_refl, go_sem, Int.reduceBEq, Int.reduceLE, Int.reduceLT, Int.reduceNeg, Nat.reduceAdd, Nat.reduceEqDiff, Nat.reduceLT, Nat.reduceLeDiff, Nat.reduceMul, Nat.reduceSub, reduceCtorEq, ↓reduceIte]) (by simp only [ rA_len, rA_sc, hk, ScM, zOk, inL, eq_self, used_is, sc_any, sc_c, sc_pp, sc_ref, sc_row, sc_agg, sc_tup, sc_fn, ScL, some_imp, List.forall_mem_map, Nat.le_refl, go_sem, Int.reduceBEq, Int.reduceLE, Int.reduceLT, Int.reduceNeg, Nat.reduceAdd, Nat.reduceEqDiff, Nat.reduceLT, Nat.reduceLeDiff, Nat.reduceMul, Nat.reduceSub, reduceCtorEq, ↓reduceIte]) (by simp only [ rA_len, rA_sc, hk, ScM, zOk, inL, eq_self, used_is, sc_any, sc_c, sc_pp, sc_ref, sc_row, sc_agg, sc_tup, sc_fn, ScL, some_imp, List.forall_mem_map, Nat.le_refl, go_sem, Int.reduceBEq, Int.reduceLE, Int.reduceLT, Int.reduceNeg, Nat.reduceAdd, Nat.reduceEqDiff, Nat.reduceLT, Nat.reduceLeDiff, Nat.reduceMul, Nat.reduceSub, reduceCtorEq, ↓reduceIte]) (by simp) fun hb hbL => ?_
  clear hb hbL
  refine walkBF (And.intro hvp (And.intro hkl (And.intro e0 (And.intro e1 (And.intro hset (And.intro hnp @ncells_mk)))))) ?_
  refine VC.loop (ι := {x : Nat × (Int × List Int) // x.1 ≤ n.fields.length ∧ x.2.2.length = s.nodes.length ∧ KnOk x.2.2 ∧ x.2.2.count 0 < kn.count 0 ∧ 1 ≤ x.2.1 ∧ x.2.1 ≤ 1001 ∧ (if n.kind = 9 then weighK (weighM s.nodes d) (n.fields.drop x.1) x.2.1 x.2.2 else (x.2.1, x.2.2)) = K0})
    (fun q => [(1, .c (.v (.int .i64 (p : Int)))), (2, .row 1000000 s.nodes.length), (3, .ref 0 1 0 0), (7, .c (.v (.int .i64 q.1.2.1))), (34, .c (.sl 9 (n.fields.map FT.cells))), (35, .c (.v (.int .i64 (n.fields.length : Int)))), (36, .c (.v (.int .i64 (q.1.1 : Int))))])
    (fun q => [(0, ⟨false, 24, 2, [[.c (.sl 10 (s.nodes.map NT.cells)), .c (.v (.int .i64 s.root))]]⟩), (1000000, ⟨true, 3, 1, rA iPV q.1.2.2⟩)]) 800 (fun q => n.fields.length - q.1.1)
    ⟨(0, (1, kn.set p (-1))), Nat.zero_le _, by simp only []; rw [List.length_set]; exact hk, hko.set p (by decide), hct, by simp only []; omega, by simp only []; omega, by
      rw [hK0, hfa]
      split
      · rw [List.drop_zero]
      · rfl⟩ ?_ ?_
  · simp only [rA_len, rA_sc, hk, List.length_set, Weak, eq_self, used_is, sc_any, sc_c, sc_pp, sc_ref, sc_row, sc_agg, sc_fn, ScL, some_imp, List.forall_mem_map, go_sem, Int.reduceBEq, Int.reduceLE, Int.reduceLT, Int.reduceNeg, Nat.reduceAdd, Nat.reduceEqDiff, Nat.reduceLT, Nat.reduceLeDiff, Nat.reduceMul, Nat.reduceSub, reduceCtorEq, ↓reduceIte]
    try simp
  clear hK0 hct hv hvp hset
  rintro ⟨⟨i, m, kn'⟩, hi, hk', hko', hc', hm1, hm2, hK⟩
  simp only [] at hi hk' hko' hc' hm1 hm2 hK ⊢
  have hkl' : (rA iPV kn').length = s.nodes.length := by rw [rA_len, hk']
  refine walkG ?_
  refine VC.cond (by rfl) (by trivial) (fun hc2 => ?_) (fun hc2 => ?_)
  · have hil : i < n.fields.length := by simp at hc2; omega
    obtain ⟨f, hx⟩ : ∃ f, n.fields[i]? = some f := ⟨n.fields[i], List.getElem?_eq_getElem hil⟩
    have hxp : (n.fields.map FT.cells)[i]? = some f.cells := by rw [List.getElem?_map, hx]; rfl
    have hw : IntKind.i64.wrap ((i : Int) + 1) = (i : Int) + 1 := wrap64_id (by omega) (by omega)
    by_cases h9 : n.kind = 9
    · have e9 : (n.kind == 9) = true := by simpa using h9
      obtain ⟨h0, h1⟩ := hr n (List.mem_of_getElem? hn) h9 f (List.mem_of_getElem? hx)
      obtain ⟨q, hq⟩ : ∃ q : Nat, f.type = (q : Int) := ⟨f.type.toNat, by omega⟩
      have hI := ih q kn' (by omega) hk' hko' (by omega)
      obtain ⟨w1, w2, w3, w4, w5⟩ := weighM_ok s.nodes d q kn' hk' hko'
      rw [if_pos h9, (List.drop_eq_getElem_cons hil).trans (by rw [(List.getElem?_eq_some_iff.1 hx).2]), weighK, hq, Int.toNat_natCast] at hK
      obtain ⟨M, hM⟩ : ∃ M, M = weighM s.nodes d q kn' := ⟨_, rfl⟩
      rw [← hM] at hI hK w1 w2 w3 w4 w5
      clear ih hM
      have hww : IntKind.i64.wrap (m + M.1) = m + M.1 := wrap64_id (by omega) (by omega)
      have hkl2 : (rA iPV M.2).length = s.nodes.length := by rw [rA_len, w1]
      simp only [ST.av_eq, scells_mk, List.map_cons, List.map_nil] at hI
      refine walkBF (And.intro hxp (And.intro @fcells_mk (And.intro @len_cells (And.intro @take_cells (And.intro @take_cellsC (And.intro hnp (And.intro @ncells_mk (And.intro e9 (And.intro hkl' hq))))))))) ?_
      ((refine AO.step fun K hK => ?_; simp only [go_sem, Int.reduceBEq, Int.reduceLE, Int.reduceLT, Int.reduceNeg, Nat.reduceAdd, Nat.reduceEqDiff, Nat.reduceLT, Nat.reduceLeDiff, Nat.reduceMul, Nat.reduceSub, reduceCtorEq, ↓reduceIte, hkl', hq, rA_ren]; (first | refine gsel_go ?_ | skip)); refine .inr (.inr (.inl ⟨?vy1, [1000000], ?va1, ?vl1, ?vm1, ?cond1, ?cont1⟩)); (case cond1 => ((repeat' apply And.intro) <;> (try ((with_reducible show ToldM _ _ _ _ _ _); exact hI))); (all_goals first | trivial | (simp only [hkl', hq, rA_ren, go_sem, Int.reduceBEq, Int.reduceLE, Int.reduceLT, Int.reduceNeg, Nat.reduceAdd, Nat.reduceEqDiff, Nat.reduceLT, Nat.reduceLeDiff, Nat.reduceMul, Nat.reduceSub, reduceCtorEq, ↓reduceIte]; done) | (simp; done) | rfl)); (first | refine hK _ _ _ ?_ | (simp only [hkl', hq, rA_ren, go_sem, Int.reduceBEq, Int.reduceLE, Int.reduceLT, Int.reduceNeg, Nat.reduceAdd, Nat.reduceEqDiff, Nat.reduceLT, Nat.reduceLeDiff, Nat.reduceMul, Nat.reduceSub, reduceCtorEq, ↓reduceIte]; first | refine hK _ _ _ ?_ | refine ⟨rfl, hK _ _ _ ?_⟩)); clear hK K)
      refine walkGF (And.intro hww (And.intro hw hkl2)) ?_
      refine .next ⟨(i + 1, (min (m + M.1) 1001, M.2)), by simp only []; omega, w1, w2, by simp only []; omega, by simp only []; omega, by simp only []; omega, by simp only []; rw [if_pos h9]; exact hK⟩ ?_ (by simp only []; omega)
      simp only [rA_len, rA_sc, rA_ren, w1, Weak, eq_self, used_is, sc_any, sc_c, sc_pp, sc_ref, sc_row, sc_agg, sc_fn, ScL, some_imp, List.forall_mem_map, go_sem, Int.reduceBEq, Int.reduceLE, Int.reduceLT, Int.reduceNeg, Nat.reduceAdd, Nat.reduceEqDiff, Nat.reduceLT, Nat.reduceLeDiff, Nat.reduceMul, Nat.reduceSub, reduceCtorEq, ↓reduceIte]
      exact ⟨cI (by omega), Nat.le_refl _⟩
    · have e9 : (n.kind == 9) = false := by simpa using h9
      rw [if_neg h9] at hK
      refine walkBF (And.intro hxp (And.intro @fcells_mk (And.intro @len_cells (And.intro @take_cells (And.intro @take_cellsC (And.intro hnp (And.intro @ncells_mk (And.intro e9 hw)))))))) ?_
      refine .next ⟨(i + 1, (m, kn')), by simp only []; omega, hk', hko', hc', hm1, hm2, by simp only []; rw [if_neg h9]; exact hK⟩ ?_ (by simp only []; omega)
      simp only [rA_len, rA_sc, hk', Weak, eq_self, used_is, sc_any, sc_c, sc_pp, sc_ref, sc_row, sc_agg, sc_fn, ScL, some_imp, List.forall_mem_map, go_sem, Int.reduceBEq, Int.reduceLE, Int.reduceLT, Int.reduceNeg, Nat.reduceAdd, Nat.reduceEqDiff, Nat.reduceLT, Nat.reduceLeDiff, Nat.reduceMul, Nat.reduceSub, reduceCtorEq, ↓reduceIte]
      exact ⟨cI (by omega), Nat.le_refl _⟩
  · have hie : i = n.fields.length := by simp at hc2; omega
    have hf : K0 = (m, kn') := by
      rw [← hK]
      split
      · rw [hie, List.drop_length, weighK]
      · rfl
    subst hf
    have hset : (rA iPV kn').set p [.c (.v (.int .i64 m))] = rA iPV (kn'.set p m) := rA_set kn' p m
    obtain ⟨u, hu⟩ : ∃ u, kn'[p]? = some u := ⟨kn'[p]'(by omega), List.getElem?_eq_getElem (by omega)⟩
    have hup : (rA iPV kn')[p]? = some [.c (.v (.int .i64 u))] := rA_at hu
    refine walkGF (And.intro hkl' (And.intro hup hset)) ?_
    refine ⟨by first | exact .inr rfl | exact .inl rfl, ?_⟩; rw [Tryz.results63]; simp only [rA_ren, resOk, resV, go_sem, Int.reduceBEq, Int.reduceLE, Int.reduceLT, Int.reduceNeg, Nat.reduceAdd, Nat.reduceEqDiff, Nat.reduceLT, Nat.reduceLeDiff, Nat.reduceMul, Nat.reduceSub, reduceCtorEq, ↓reduceIte]
    exact .c _

theorem namesM_take {ns : List NT} {i : Nat} {n : NT} (h : ns[i]? = some n) : namesM (ns.take (i + 1)) = namesM (ns.take i) ++ (if namedK n.kind = true then [n.name] else []) := by
  rw [List.take_add_one, h]
  simp only [namesM, List.filter_append, List.map_append, Option.toList_some]
  congr 1
  by_cases hk : namedK n.kind = true
  · simp [hk]
  · simp [hk]
theorem rA_rep (N : Nat) : rA iPV (List.replicate N 0) = List.replicate N [AV.c (.v (.int .i64 0))] := by
  simp [rA, iPV]
theorem ordered_kids {s : ST} (h : orderedM s = true) : ∀ n ∈ s.nodes, ∀ k ∈ kidsN n, 0 ≤ k ∧ k < (s.nodes.length : Int) := by
  intro n hn k hk
  obtain ⟨i, hi⟩ := List.getElem?_of_mem hn
  have := (ordered_stand h).1 i n (Nat.zero_le _) (List.getElem?_eq_some_iff.1 hi).1 hi k hk
  exact ⟨this.1, this.2.1⟩
theorem names_sm {ns : List NT} {N : Nat} (h : ∀ n ∈ ns, n.sm N) : ∀ x ∈ namesM ns, x.length ≤ N := by
  intro x hx
  obtain ⟨n, hn, rfl⟩ := List.mem_map.1 hx
  exact (h n (List.mem_filter.1 hn).1).1
theorem names_len (ns : List NT) : (namesM ns).length ≤ ns.length := by
  unfold namesM
  rw [List.length_map]
  exact List.length_filter_le _ _
set_option maxRecDepth 100000 in
set_option maxHeartbeats 1600000 in
theorem sRight_told (s : ST) (hsm : s.sm 1000000) : Told Tryz.prog 26 [s.av] (.c (.v (.bool (rightM s)))) := by
  obtain ⟨V, hV⟩ : ∃ V, V = rightM s := ⟨_, rfl⟩
  rw [← hV]
  unfold rightM at hV
  obtain ⟨hl, hs⟩ := hsm
  have hO := ordered_told s hl hs
  simp only [ST.av_eq, scells_mk, List.map_cons, List.map_nil] at hO
  rw [ST.av_eq, scells_mk]
  cases ho : orderedM s with
  | false =>
    rw [ho] at hO hV
    obtain rfl : V = false := hV
    refine VC.told ent_26 Tryz.func26 rfl Tryz.ntmps26 (by simp) (by first | rfl | simp [AV.pureB, AV.pureL, pureL_c, pures]) (by first | rfl | simp [AV.pureB, AV.pureL, pureL_c, pures]) fun hb => ?_
    clear hb
    refine walkG ?_
    refine walkC (hO) ?_
    refine walkB ?_
    refine ⟨by first | exact .inr rfl | exact .inl rfl, ?_⟩; rw [Tryz.results26]; simp only [resOk, resV, go_sem, Int.reduceBEq, Int.reduceLE, Int.reduceLT, Int.reduceNeg, Nat.reduceAdd, Nat.reduceEqDiff, Nat.reduceLT, Nat.reduceLeDiff, Nat.reduceMul, Nat.reduceSub, reduceCtorEq, ↓reduceIte]
    exact .c _
  | true =>
  rw [ho] at hO hV
  have hki := ordered_kids ho
  rw [Bool.true_and] at hV
  obtain ⟨R, hR⟩ : ∃ R, R = rightL s.nodes s.nodes 0 (List.replicate s.nodes.length 0) := ⟨_, rfl⟩
  rw [← hR] at hV
  have hnm : ∀ i, (namesM (s.nodes.take i)).length ≤ 1000000 := fun i => by
    have := names_len (s.nodes.take i)
    rw [List.length_take] at this
    omega
  refine VC.told ent_26 Tryz.func26 rfl Tryz.ntmps26 (by simp) (by first | rfl | simp [AV.pureB, AV.pureL, pureL_c, pures]) (by first | rfl | simp [AV.pureB, AV.pureL, pureL_c, pures]) fun hb => ?_
  clear hb
  refine walkG ?_
  refine walkC (hO) ?_
  refine walkB ?_
  refine VC.nil 3 9 1 (by rfl) (by trivial) (by rfl) ?_
  refine VC.loop (ι := {x : Nat × List Int // x.1 ≤ s.nodes.length ∧ x.2.length = s.nodes.length ∧ KnOk x.2 ∧ rightL s.nodes (s.nodes.drop x.1) x.1 x.2 = R})
    (fun q => [(1, .ref 0 1 0 0), (3, .row 120 (namesM (s.nodes.take q.1.1)).length), (4, .row 72 s.nodes.length), (15, .c (.sl 10 (s.nodes.map NT.cells))), (16, .c (.v (.int .i64 (s.nodes.length : Int)))), (17, .c (.v (.int .i64 (q.1.1 : Int))))])
    (fun q => [(0, ⟨false, 24, 2, [[.c (.sl 10 (s.nodes.map NT.cells)), .c (.v (.int .i64 s.root))]]⟩), (72, ⟨true, 3, 1, rA iPV q.1.2⟩), (120, ⟨true, 9, 1, rA sPV (namesM (s.nodes.take q.1.1))⟩)]) 800 (fun q => s.nodes.length - q.1.1)
    ⟨(0, List.replicate s.nodes.length 0), Nat.zero_le _, by simp, fun x hx => by obtain rfl := (List.mem_replicate.1 hx).2; decide, by rw [List.drop_zero]; exact hR.symm⟩ ?_ ?_
  · simp only [rA_len, rA_sc, rA_rep, List.length_replicate, Weak, eq_self, used_is, sc_any, sc_c, sc_pp, sc_ref, sc_row, sc_agg, sc_fn, ScL, some_imp, List.forall_mem_map, go_sem, Int.reduceBEq, Int.reduceLE, Int.reduceLT, Int.reduceNeg, Nat.reduceAdd, Nat.reduceEqDiff, Nat.reduceLT, Nat.reduceLeDiff, Nat.reduceMul, Nat.reduceSub, reduceCtorEq, ↓reduceIte]
    refine ⟨rfl, rfl, ⟨Nat.le_refl _, Nat.le_refl _⟩, fun e he x hx => ?_⟩
    obtain rfl := (List.mem_replicate.1 he).2
    obtain rfl := List.mem_singleton.1 hx
    exact .c
  clear hR hO
  rintro ⟨⟨i, kn⟩, hi, hk, hko, hR⟩
  simp only [] at hi hk hko hR ⊢
  have hkl : (rA iPV kn).length = s.nodes.length := by rw [rA_len, hk]
  refine walkG ?_
  refine VC.cond (by rfl) (by trivial) (fun hc => ?_) (fun hc => ?_)
  · have hlt : i < s.nodes.length := by simp at hc; omega
    obtain ⟨n, hn⟩ : ∃ n, s.nodes[i]? = some n := ⟨s.nodes[i], List.getElem?_eq_getElem hlt⟩
    have hnp : (s.nodes.map NT.cells)[i]? = some n.cells := by rw [List.getElem?_map, hn]; rfl
    have hw : IntKind.i64.wrap ((i : Int) + 1) = (i : Int) + 1 := wrap64_id (by omega) (by omega)
    have hmem := List.mem_of_getElem? hn
    have hNd := node_told s n (hs n hmem) fun h13 k hk => hki n hmem k (by rw [kidsN, if_neg (by omega), if_neg (by omega), if_pos h13]; exact hk)
    have hNm := named_told n.kind
    have hW := weight_told s hl hs (fun m hm h9 f hf => hki m hm f.type (by rw [kidsN, if_pos h9]; exact List.mem_map.2 ⟨f, hf, rfl⟩)) (s.nodes.length + 1) i kn hlt hk hko (by have := List.count_le_length (a := (0 : Int)) (l := kn); omega)
    obtain ⟨w1, w2, w3, w4, w5⟩ := weighM_ok s.nodes (s.nodes.length + 1) i kn hk hko
    rw [(List.drop_eq_getElem_cons hlt).trans (by rw [(List.getElem?_eq_some_iff.1 hn).2]), rightL] at hR
    obtain ⟨M, hM⟩ : ∃ M, M = weighM s.nodes (s.nodes.length + 1) i kn := ⟨_, rfl⟩
    rw [← hM] at hW hR w1 w2 w3 w4 w5
    clear hM
    simp only [ST.av_eq, scells_mk, NT.av_eq, ncells_mk, List.map_cons, List.map_nil] at hNd hW
    have hkl2 : (rA iPV M.2).length = s.nodes.length := by rw [rA_len, w1]
    have hnl : (rA sPV (namesM (s.nodes.take i))).length = (namesM (s.nodes.take i)).length := rA_len _ _
    have hnt := namesM_take hn
    have hni := hnm i
    cases hnn : nodeM s.nodes n with
    | false =>
      rw [hnn] at hNd hR
      obtain rfl : R = false := hR.symm
      obtain rfl : V = false := hV
      refine walkGF (And.intro hnp (And.intro @ncells_mk hkl)) ?_
      refine walkC (hNd) ?_
      refine walkB ?_
      refine ⟨by first | exact .inr rfl | exact .inl rfl, ?_⟩; rw [Tryz.results26]; simp only [resOk, resV, go_sem, Int.reduceBEq, Int.reduceLE, Int.reduceLT, Int.reduceNeg, Nat.reduceAdd, Nat.reduceEqDiff, Nat.reduceLT, Nat.reduceLeDiff, Nat.reduceMul, Nat.reduceSub, reduceCtorEq, ↓reduceIte]
      exact .c _
    | true =>
      rw [hnn] at hNd hR
      rw [Bool.true_and] at hR
      refine walkGF (And.intro hnp (And.intro @ncells_mk hkl)) ?_
      refine walkC (hNd) ?_
      refine walkG ?_
      ((refine AO.step fun K hK => ?_; simp only [go_sem, Int.reduceBEq, Int.reduceLE, Int.reduceLT, Int.reduceNeg, Nat.reduceAdd, Nat.reduceEqDiff, Nat.reduceLT, Nat.reduceLeDiff, Nat.reduceMul, Nat.reduceSub, reduceCtorEq, ↓reduceIte, hkl, rA_ren]; (first | refine gsel_go ?_ | skip)); refine .inr (.inr (.inl ⟨?vy1, [72], ?va1, ?vl1, ?vm1, ?cond1, ?cont1⟩)); (case cond1 => ((repeat' apply And.intro) <;> (try ((with_reducible show ToldM _ _ _ _ _ _); exact hW))); (all_goals first | trivial | (simp only [hkl, rA_ren, go_sem, Int.reduceBEq, Int.reduceLE, Int.reduceLT, Int.reduceNeg, Nat.reduceAdd, Nat.reduceEqDiff, Nat.reduceLT, Nat.reduceLeDiff, Nat.reduceMul, Nat.reduceSub, reduceCtorEq, ↓reduceIte]; done) | (simp; done) | rfl)); (first | refine hK _ _ _ ?_ | (simp only [hkl, rA_ren, go_sem, Int.reduceBEq, Int.reduceLE, Int.reduceLT, Int.reduceNeg, Nat.reduceAdd, Nat.reduceEqDiff, Nat.reduceLT, Nat.reduceLeDiff, Nat.reduceMul, Nat.reduceSub, reduceCtorEq, ↓reduceIte]; first | refine hK _ _ _ ?_ | refine ⟨rfl, hK _ _ _ ?_⟩)); clear hK K)
      refine walkG ?_
      refine VC.cond (by rfl) (by trivial) (fun hc2 => ?_) (fun hc2 => ?_)
      · have hf : V = false := by
          have : ¬ M.1 ≤ 1000 := by simp at hc2; omega
          rw [hV, ← hR]
          simp [this]
        subst hf
        refine walkG ?_
        refine ⟨by first | exact .inr rfl | exact .inl rfl, ?_⟩; rw [Tryz.results26]; simp only [resOk, resV, go_sem, Int.reduceBEq, Int.reduceLE, Int.reduceLT, Int.reduceNeg, Nat.reduceAdd, Nat.reduceEqDiff, Nat.reduceLT, Nat.reduceLeDiff, Nat.reduceMul, Nat.reduceSub, reduceCtorEq, ↓reduceIte]
        exact .c _
      have hm1 : M.1 ≤ 1000 := by simp at hc2; omega
      have hR2 : rightL s.nodes (s.nodes.drop (i + 1)) (i + 1) M.2 = R := by
        rw [← hR]
        simp [hm1]
      refine walkGF (hkl2) ?_
      refine walkC (hNm) ?_
      refine walkG ?_
      refine VC.cond (by rfl) (by trivial) (fun hc3 => ?_) (fun hc3 => ?_)
      · rw [if_pos hc3] at hnt
        have hr : rA sPV (namesM (s.nodes.take i)) ++ [[.c (.v (.string (str n.name)))]] = rA sPV (namesM (s.nodes.take (i + 1))) := by
          rw [hnt]
          exact rA_one sPV _ n.name
        have hl2 : (namesM (s.nodes.take (i + 1))).length = (namesM (s.nodes.take i)).length + 1 := by rw [hnt]; simp
        refine walkGF (And.intro hnl (And.intro hr hw)) ?_
        refine .next ⟨(i + 1, M.2), by simp only []; omega, w1, w2, hR2⟩ ?_ (by simp only []; omega)
        simp only [rA_len, rA_sc, rA_ren, w1, hl2, Weak, eq_self, used_is, sc_any, sc_c, sc_pp, sc_ref, sc_row, sc_agg, sc_fn, ScL, some_imp, List.forall_mem_map, go_sem, Int.reduceBEq, Int.reduceLE, Int.reduceLT, Int.reduceNeg, Nat.reduceAdd, Nat.reduceEqDiff, Nat.reduceLT, Nat.reduceLeDiff, Nat.reduceMul, Nat.reduceSub, reduceCtorEq, ↓reduceIte]
        exact ⟨cI (by omega), Nat.le_refl _, Nat.le_refl _⟩
      · rw [if_neg (by rw [hc3]; simp), List.append_nil] at hnt
        refine walkGF (hw) ?_
        refine .next ⟨(i + 1, M.2), by simp only []; omega, w1, w2, hR2⟩ ?_ (by simp only []; omega)
        simp only [rA_len, rA_sc, rA_ren, w1, hnt, Weak, eq_self, used_is, sc_any, sc_c, sc_pp, sc_ref, sc_row, sc_agg, sc_fn, ScL, some_imp, List.forall_mem_map, go_sem, Int.reduceBEq, Int.reduceLE, Int.reduceLT, Int.reduceNeg, Nat.reduceAdd, Nat.reduceEqDiff, Nat.reduceLT, Nat.reduceLeDiff, Nat.reduceMul, Nat.reduceSub, reduceCtorEq, ↓reduceIte]
        exact ⟨cI (by omega), Nat.le_refl _, Nat.le_refl _⟩
  · have hie : i = s.nodes.length := by simp at hc; omega
    have hf : R = true := by
      rw [← hR, hie, List.drop_length, rightL]
    subst hf
    rw [Bool.true_and] at hV
    have htk : s.nodes.take i = s.nodes := by rw [hie, List.take_length]
    rw [htk]
    have hnm0 := hnm i
    rw [htk] at hnm0
    have hD := different_told (g := 65) (rule := fullM) (namesM s.nodes) (by omega) fun x hx => full_told x (by have := names_sm hs x hx; omega)
    rw [← hV] at hD
    have hrl : (rA sPV (namesM s.nodes)).length = (namesM s.nodes).length := rA_len _ _
    refine walkGF (hrl) ?_
    (refine AO.step fun K hK => ?_; simp only [go_sem, Int.reduceBEq, Int.reduceLE, Int.reduceLT, Int.reduceNeg, Nat.reduceAdd, Nat.reduceEqDiff, Nat.reduceLT, Nat.reduceLeDiff, Nat.reduceMul, Nat.reduceSub, reduceCtorEq, ↓reduceIte, hrl]; (first | refine gsel_go ?_ | skip))
    refine .inr (.inl ⟨.c (.v (.bool V)), [.c (.sl 1 ((namesM s.nodes).map sPV)), .fn (.func 65) [] []], [120], ⟨by simp [AV.pureL, AV.pureB], rfl, fun k x z h5 h6 => ?_, rfl, hD⟩, hK _ _ _ ?_⟩)
    · match k with
      | 0 =>
        obtain rfl := Option.some.inj h5
        obtain rfl := Option.some.inj h6
        exact View.row (B := ⟨true, 9, 1, rA sPV (namesM s.nodes)⟩) (es := (namesM s.nodes).map sPV) rfl rfl hrl (rA_pv _ _)
      | 1 => obtain rfl := Option.some.inj h5; obtain rfl := Option.some.inj h6; exact .same _
      | k + 2 => simp at h5
    clear hK K
    refine walkG ?_
    refine ⟨by first | exact .inr rfl | exact .inl rfl, ?_⟩; rw [Tryz.results26]; simp only [resOk, resV, go_sem, Int.reduceBEq, Int.reduceLE, Int.reduceLT, Int.reduceNeg, Nat.reduceAdd, Nat.reduceEqDiff, Nat.reduceLT, Nat.reduceLeDiff, Nat.reduceMul, Nat.reduceSub, reduceCtorEq, ↓reduceIte]
    exact .c _

set_option maxRecDepth 100000 in
set_option maxHeartbeats 800000 in
theorem vConforms_told (s : ST) (hs : s.sm 1000000) (v : VT) (hv : v.sm 1000000) (a : Int) : Told Tryz.prog 18 [s.av, .c (.v (.int .i64 a)), v.av] (.c (.v (.bool (conM s a v (rightM s))))) := by
  obtain ⟨V, hV⟩ : ∃ V, V = conM s a v (rightM s) := ⟨_, rfl⟩
  rw [← hV]
  unfold conM at hV
  have hR := sRight_told s hs
  have hki := fun h : rightM s = true => ordered_kids (right_ordered h)
  generalize rightM s = r at hR hV hki
  by_cases h1 : 0 ≤ a
  · have e1 : decide (a ≥ 0) = true := by simpa using h1
    rw [show decide (0 ≤ a) = true from e1, Bool.true_and] at hV
    by_cases h2 : a < (s.nodes.length : Int)
    · have e2 : decide (a < (s.nodes.length : Int)) = true := by simpa using h2
      rw [e2, Bool.true_and] at hV
      cases r with
      | false =>
        obtain rfl : V = false := hV
        simp only [ST.av_eq, scells_mk, List.map_cons, List.map_nil] at hR
        rw [VT.av_eq, ST.av_eq, scells_mk]
        refine VC.told ent_18 Tryz.func18 rfl Tryz.ntmps18 (by simp) (by first | rfl | simp [AV.pureB, AV.pureL, pureL_c, pures]) (by first | rfl | simp [AV.pureB, AV.pureL, pureL_c, pures]) fun hb => ?_
        clear hb
        refine walkGF (And.intro e1 e2) ?_
        refine walkC (hR) ?_
        refine walkG ?_
        refine ⟨by first | exact .inr rfl | exact .inl rfl, ?_⟩; rw [Tryz.results18]; simp only [resOk, resV, go_sem, Int.reduceBEq, Int.reduceLE, Int.reduceLT, Int.reduceNeg, Nat.reduceAdd, Nat.reduceEqDiff, Nat.reduceLT, Nat.reduceLeDiff, Nat.reduceMul, Nat.reduceSub, reduceCtorEq, ↓reduceIte]
        exact .c _
      | true =>
        have hC := conforms_told s (hki rfl) _ v (Nat.le_refl _) hv a h1 h2
        obtain rfl : V = isM s.nodes a v := hV
        generalize isM s.nodes a v = B at hC ⊢
        simp only [ST.av_eq, scells_mk, List.map_cons, List.map_nil] at hR hC
        rw [VT.av_eq] at hC ⊢
        rw [ST.av_eq, scells_mk]
        refine VC.told ent_18 Tryz.func18 rfl Tryz.ntmps18 (by simp) (by first | rfl | simp [AV.pureB, AV.pureL, pureL_c, pures]) (by first | rfl | simp [AV.pureB, AV.pureL, pureL_c, pures]) fun hb => ?_
        clear hb
        refine walkGF (And.intro e1 e2) ?_
        refine walkC (hR) ?_
        refine walkGF (And.intro @len_vcells (And.intro @take_vcells @take_vcellsC)) ?_
        refine walkCF (@pureL_c) (hC) ?_
        refine walkG ?_
        refine ⟨by first | exact .inr rfl | exact .inl rfl, ?_⟩; rw [Tryz.results18]; simp only [resOk, resV, go_sem, Int.reduceBEq, Int.reduceLE, Int.reduceLT, Int.reduceNeg, Nat.reduceAdd, Nat.reduceEqDiff, Nat.reduceLT, Nat.reduceLeDiff, Nat.reduceMul, Nat.reduceSub, reduceCtorEq, ↓reduceIte]
        exact .c _
    · have e2 : decide (a < (s.nodes.length : Int)) = false := by simpa using h2
      rw [e2] at hV
      obtain rfl : V = false := hV
      rw [VT.av_eq, ST.av_eq, scells_mk]
      refine VC.told ent_18 Tryz.func18 rfl Tryz.ntmps18 (by simp) (by first | rfl | simp [AV.pureB, AV.pureL, pureL_c, pures]) (by first | rfl | simp [AV.pureB, AV.pureL, pureL_c, pures]) fun hb => ?_
      clear hb
      refine walkGF (And.intro e1 e2) ?_
      refine ⟨by first | exact .inr rfl | exact .inl rfl, ?_⟩; rw [Tryz.results18]; simp only [resOk, resV, go_sem, Int.reduceBEq, Int.reduceLE, Int.reduceLT, Int.reduceNeg, Nat.reduceAdd, Nat.reduceEqDiff, Nat.reduceLT, Nat.reduceLeDiff, Nat.reduceMul, Nat.reduceSub, reduceCtorEq, ↓reduceIte]
      exact .c _
  · have e1 : decide (a ≥ 0) = false := by simpa using h1
    rw [show decide (0 ≤ a) = false from e1] at hV
    obtain rfl : V = false := hV
    rw [VT.av_eq, ST.av_eq, scells_mk]
    refine VC.told ent_18 Tryz.func18 rfl Tryz.ntmps18 (by simp) (by first | rfl | simp [AV.pureB, AV.pureL, pureL_c, pures]) (by first | rfl | simp [AV.pureB, AV.pureL, pureL_c, pures]) fun hb => ?_
    clear hb
    refine walkGF (e1) ?_
    refine ⟨by first | exact .inr rfl | exact .inl rfl, ?_⟩; rw [Tryz.results18]; simp only [resOk, resV, go_sem, Int.reduceBEq, Int.reduceLE, Int.reduceLT, Int.reduceNeg, Nat.reduceAdd, Nat.reduceEqDiff, Nat.reduceLT, Nat.reduceLeDiff, Nat.reduceMul, Nat.reduceSub, reduceCtorEq, ↓reduceIte]
    exact .c _
end

theorem branchesM_at {ns : List NT} : ∀ (l done : List Int), branchesM ns done l = true → ∀ (i : Nat) (k : Int), l[i]? = some k → branchM ns (done ++ l.take i) k = true
  | [], _, _, i, k, h => by simp at h
  | x :: xs, done, hb, i, k, h => by
    rw [branchesM, Bool.and_eq_true] at hb
    match i with
    | 0 =>
      obtain rfl := Option.some.inj h
      simpa using hb.1
    | i + 1 =>
      have := branchesM_at xs (done ++ [x]) hb.2 i k (by simpa using h)
      simpa [List.append_assoc] using this
theorem right_nodes {s : ST} (h : rightM s = true) : ∀ n ∈ s.nodes, nodeM s.nodes n = true := by
  have key : ∀ (r : List NT) (p : Nat) (kn : List Int), rightL s.nodes r p kn = true → ∀ n ∈ r, nodeM s.nodes n = true := by
    intro r
    induction r with
    | nil => simp
    | cons x xs ih =>
      intro p kn hr n hn
      rw [rightL] at hr
      simp only [Bool.and_eq_true] at hr
      rcases List.mem_cons.1 hn with rfl | hn
      · exact hr.1
      · exact ih _ _ hr.2.2 n hn
  unfold rightM at h
  simp only [Bool.and_eq_true] at h
  exact key _ _ _ h.2.1
theorem one_branch {s : ST} (h : rightM s = true) {nd : NT} (hn : nd ∈ s.nodes) (h13 : nd.kind = 13) {v : VT} {i j : Nat} {a b : Int} (ha : nd.branches[i]? = some a) (hb : nd.branches[j]? = some b) (hij : i < j)
    (na : namedK (kindAt s.nodes a.toNat) = false) (nb : namedK (kindAt s.nodes b.toNat) = false) (va : isM s.nodes a v = true) (vb : isM s.nodes b v = true) : False := by
  have hN := right_nodes h nd hn
  unfold nodeM at hN
  simp only [Bool.and_eq_true] at hN
  have hU := hN.2.2
  rw [h13, if_neg (by decide), if_neg (by decide), if_neg (by decide), if_pos rfl] at hU
  unfold unionM at hU
  simp only [Bool.and_eq_true] at hU
  have hB := branchesM_at nd.branches [] hU.2.2 j b hb
  rw [List.nil_append, branchM, Bool.and_eq_true, Bool.not_eq_true'] at hB
  have hm : a ∈ nd.branches.take j := by
    refine List.mem_of_getElem? (i := i) ?_
    rw [List.getElem?_take, if_pos hij]
    exact ha
  have hf := List.any_eq_false.1 hB.2 a hm
  refine hf ?_
  have e : kindAt s.nodes a.toNat = kindAt s.nodes b.toNat := (isM_kind va).symm.trans (isM_kind vb)
  rw [nb, e]
  simp
theorem item_in {s : ST} (h : rightM s = true) {a : Int} {nd : NT} (hn : s.nodes[a.toNat]? = some nd) {k n b : Int} {t : List UInt8} {xs : List VT} {ks : List (List UInt8)} (hv : isM s.nodes a (.mk k n b t xs ks) = true) {i : Nat} {x : VT} (hx : xs[i]? = some x) :
    isM s.nodes (itemAt nd n i) x = true ∧ 0 ≤ itemAt nd n i ∧ itemAt nd n i < (s.nodes.length : Int) ∧ k = nd.kind ∧
      ((nd.kind = 9 ∧ (kidsN nd)[i]? = some (itemAt nd n i)) ∨ (nd.kind = 13 ∧ 0 ≤ n ∧ n < ((kidsN nd).length : Int) ∧ (kidsN nd)[n.toNat]? = some (itemAt nd n i)) ∨ (nd.kind ≠ 9 ∧ nd.kind ≠ 13 ∧ kidsN nd = [itemAt nd n i])) := by
  rw [isM_eq hn, Bool.and_eq_true] at hv
  obtain ⟨hh, he⟩ := hv
  have hI := (eachM_iff s.nodes _ xs).1 he i x hx
  have hlt : i < xs.length := (List.getElem?_eq_some_iff.1 hx).1
  have hk := ordered_kids (right_ordered h) nd (List.mem_of_getElem? hn)
  unfold headM at hh
  simp only [Bool.and_eq_true, beq_iff_eq] at hh
  obtain ⟨⟨hkk, hvb, _⟩, hrest⟩ := hh
  have hmem : ∀ c : Int, c ∈ kidsN nd → 0 ≤ c ∧ c < (s.nodes.length : Int) := hk
  by_cases h9 : nd.kind = 9
  · rw [hkk, h9, if_neg (by decide), if_neg (by decide), if_neg (by decide), if_neg (by decide), if_neg (by decide), if_neg (by decide), if_pos rfl] at hrest
    simp only [Bool.and_eq_true, beq_iff_eq] at hrest
    have hfl : i < nd.fields.length := by rw [← hrest.1]; exact hlt
    have hat : (kidsN nd)[i]? = some (itemAt nd n i) := by
      rw [kidsN, if_pos h9, itemAt, if_pos h9, typeAt, List.getElem?_map, List.getElem?_eq_getElem hfl]
      rfl
    have := hmem _ (List.mem_of_getElem? hat)
    exact ⟨hI, this.1, this.2, hkk, .inl ⟨h9, hat⟩⟩
  by_cases h13 : nd.kind = 13
  · rw [hkk, h13, if_neg (by decide), if_neg (by decide), if_neg (by decide), if_neg (by decide), if_neg (by decide), if_neg (by decide), if_neg (by decide), if_neg (by decide), if_neg (by decide), if_pos rfl] at hrest
    simp only [Bool.and_eq_true, beq_iff_eq, decide_eq_true_eq] at hrest
    have hkd : kidsN nd = nd.branches := by
      unfold kidsN
      rw [if_neg h9, if_neg (by omega), if_pos h13]
    have hbl : n.toNat < nd.branches.length := by omega
    have hat : (kidsN nd)[n.toNat]? = some (itemAt nd n i) := by
      rw [hkd, itemAt, if_neg h9, if_pos h13, branchAt, List.getElem?_eq_getElem hbl]
    have := hmem _ (List.mem_of_getElem? hat)
    exact ⟨hI, this.1, this.2, hkk, .inr (.inl ⟨h13, hrest.1, by rw [hkd]; exact hrest.2.1, hat⟩)⟩
  · have h1112 : nd.kind = 11 ∨ nd.kind = 12 := by
      by_cases h11 : nd.kind = 11
      · exact .inl h11
      · by_cases h12 : nd.kind = 12
        · exact .inr h12
        · have := vbare_items hvb (by omega) (by omega) (by omega) (by omega)
          omega
    have hkd : kidsN nd = [itemAt nd n i] := by
      unfold kidsN
      rw [if_neg h9, if_pos h1112, itemAt, if_neg h9, if_neg h13]
    have := hmem _ (by rw [hkd]; simp : itemAt nd n i ∈ kidsN nd)
    exact ⟨hI, this.1, this.2, hkk, .inr (.inr ⟨h9, h13, hkd⟩)⟩
section
attribute [local go_sem] opx opE ev okx gcond bnd okO AV.get AV.okb cAV upd_at putd_some putd_none wrs_nil wrs_cons look_nil look_cons st argT_at bpick_and bpick_or bpick_true bpick_false binV binI binS binVOk binOk isShift binSOk unV unVOk loadV loadP cellsA zeroA Blkd.len setE grown moreA moreR moreOk eqRes pv fillA fillE putSeg AV.cellish AV.pureL AV.pureB lentL_is ex_some AV.ren AV.renL renL_c Blkd.ren rho wrM renN lentOk rhoE keepM endOk tyA_2 tyA_3 tyA_4 tyA_5 tyA_6 tyA_7 tyA_8 tyA_9 tyA_10 tyA_11 tyA_12 tyA_13 tyA_14 tyA_15 tyA_16 tyA_17 tyA_18 tyA_19 tyA_21 tyA_22 tyA_23 tyA_24 tyA_29 tyA_30 tyA_31 tyA_32 tyA_33 tyA_34 tyA_35 tyA_36 tyA_37 tyA_38 tyA_39 tyA_40 tyA_41 tyA_42 tyA_43 tyA_51 tyA_73 tyA_77 tyA_99 tyA_100 tyA_101 tyA_114 tyA_120 tyA_121 tyA_122 tyA_131 tyA_132 tyA_133 tyA_134 tyA_135 tyA_138 tyA_139 tyA_140 tyA_149 tyA_163 tyA_168 tyA_210 tyA_212 tyA_219 tyA_227 tyA_231 tyA_233 tyA_237 tyA_238 tyA_239 tyA_240 tyA_241 tyA_243 tyA_244 tyA_246 tyA_247 tyA_248 tyA_251 Option.map_some Option.map_none Option.getD_some Option.getD_none Option.bind_some Option.bind_none List.getElem?_cons_zero List.getElem?_cons_succ List.getElem?_nil List.getElem?_toArray List.length_cons List.length_nil List.length_map List.forall_mem_map List.map_cons List.map_nil List.drop_zero List.drop_succ_cons List.drop_nil List.take_zero List.take_succ_cons List.take_nil List.mem_cons List.not_mem_nil or_false forall_eq_or_imp forall_eq List.set_cons_zero List.set_cons_succ List.cons_append List.nil_append List.append_nil List.foldl_cons List.foldl_nil List.replicate_succ List.replicate_zero List.all_cons List.all_nil if_true if_false Bool.false_eq_true ne_eq not_false_eq_true not_true_eq_false true_and and_true and_self true_implies imp_self implies_true forall_const beq_self_eq_true Bool.and_true Bool.true_and Bool.and_false Bool.false_and Bool.or_true Bool.true_or Bool.or_false Bool.false_or Bool.not_true Bool.not_false Bool.not_eq_eq_eq_not intKindOf Value.oneCell' Int.toNat_natCast beq_true beq_false Bool.not_eq_true false_implies false_or true_or or_true Nat.zero_add Nat.add_zero decide_true decide_false Int.cast_ofNat_Int Int.toNat_zero Int.toNat_one eq_self

noncomputable def ceq {α : Type} (a b : α) : Bool := @decide (a = b) (Classical.propDecidable _)
theorem ceq_iff {α : Type} (a b : α) : ceq a b = true ↔ a = b := by simp [ceq]
theorem ceq_false {α : Type} (a b : α) : ceq a b = false ↔ a ≠ b := by simp [ceq]
theorem ceq_self {α : Type} (a : α) : ceq a a = true := (ceq_iff a a).2 rfl

set_option maxRecDepth 100000 in
set_option maxHeartbeats 400000 in
theorem eqfV_told {g : FuncId} {fs cs : List AV} (hp : AV.pureL fs = true) (hp' : AV.pureL cs = true) (xs ys : List VT) (hcall : ∀ x ∈ xs, ∀ y, Told Tryz.prog g (fs ++ ([x.av, y.av] ++ cs)) (.c (.v (.bool (ceq x y))))) :
    Told Tryz.prog 59 [.c (.sl 6 (xs.map VT.cells)), .c (.sl 6 (ys.map VT.cells)), .fn (.func g) fs cs] (.c (.v (.bool (ceq xs ys)))) := by
  refine VC.told ent_59 Tryz.func59 rfl Tryz.ntmps59 (by simp) (by simp [AV.pureB, AV.pureL, hp, hp']) rfl fun hb => ?_
  simp only [abd_c, pbd_sl, List.mem_cons, List.not_mem_nil, or_false, forall_eq_or_imp, forall_eq, List.length_map] at hb
  have h1 := hb.1.1
  have h2 := hb.2.1.1
  clear hb
  refine walkG ?_
  refine VC.cond (by rfl) (by trivial) (fun hc => ?_) (fun hc => ?_)
  · have hne : ceq xs ys = false := by
      rw [ceq_false]
      intro e
      subst e
      simp at hc
    refine walkG ?_
    refine ⟨.inr rfl, ?_⟩
    rw [Tryz.results59, hne]
    simp only [resOk, resV, go_sem, Int.reduceBEq, Int.reduceLE, Int.reduceLT, Int.reduceNeg, Nat.reduceAdd, Nat.reduceEqDiff, Nat.reduceLT, Nat.reduceLeDiff, Nat.reduceMul, Nat.reduceSub, reduceCtorEq, ↓reduceIte]
    exact .c _
  · have hlen : xs.length = ys.length := by
      simp at hc
      omega
    refine walkG ?_
    refine VC.loop (ι := {i : Nat // i ≤ xs.length ∧ xs.take i = ys.take i}) (fun i => [(1, .c (.sl 6 (ys.map VT.cells))), (2, .fn (.func g) fs cs), (15, .c (.sl 6 (xs.map VT.cells))), (16, .c (.v (.int .i64 xs.length))), (17, .c (.v (.int .i64 i.1)))]) (fun _ => []) 0 (fun i => xs.length - i.1) ⟨0, Nat.zero_le _, rfl⟩ ?_ ?_
    · simp only [sc_pureL hp, sc_pureL hp', Weak, eq_self, used_is, sc_any, sc_c, sc_pp, sc_ref, sc_row, sc_agg, sc_fn, ScL, some_imp, List.forall_mem_map, go_sem, Int.reduceBEq, Int.reduceLE, Int.reduceLT, Int.reduceNeg, Nat.reduceAdd, Nat.reduceEqDiff, Nat.reduceLT, Nat.reduceLeDiff, Nat.reduceMul, Nat.reduceSub, reduceCtorEq, ↓reduceIte]
      all_goals rfl
    rintro ⟨i, hi, ht⟩
    refine walkG ?_
    refine VC.cond (by rfl) (by trivial) (fun hc => ?_) (fun hc => ?_)
    · simp only [decide_eq_true_eq] at hc
      obtain ⟨x, hx⟩ : ∃ x, xs[i]? = some x := ⟨xs[i], List.getElem?_eq_getElem (by omega)⟩
      obtain ⟨y, hy⟩ : ∃ y, ys[i]? = some y := ⟨ys[i], List.getElem?_eq_getElem (by omega)⟩
      have hw : IntKind.i64.wrap ((i : Int) + 1) = (i : Int) + 1 := wrap64_id (by omega) (by omega)
      have hcl := hcall x (List.mem_of_getElem? hx) y
      (repeat (first | refine pass ?_ | refine VC.region (by rfl) (by rfl) ?_ | (refine AO.step fun K hK => ?_; simp only [List.getElem?_map, hx, hy, VT.av, len_vcells, take_vcells, take_vcellsC, go_sem, Int.reduceBEq, Int.reduceLE, Int.reduceLT, Int.reduceNeg, Nat.reduceAdd, Nat.reduceEqDiff, Nat.reduceLT, Nat.reduceLeDiff, Nat.reduceMul, Nat.reduceSub, reduceCtorEq, ↓reduceIte]; (first | refine gsel_skip ?_ | refine gsel_go ?_ | skip); (first | refine hK _ _ _ ?_ | refine ⟨by first | omega | exact ⟨_, rfl, rfl⟩ | exact fun _ => ⟨_, rfl, rfl⟩ | (intro h; simp only [List.getElem?_map, hx, hy, VT.av, len_vcells, take_vcells, take_vcellsC, h, true_and]; omega) | (clear hK; intro h; simp_all <;> omega), hK _ _ _ ?_⟩); clear hK K) | refine VC.draw mixP (by rfl) (by rfl) ?_ | refine ⟨okd_of (by kernel_rfl), ?_⟩ | refine BQ.other (by decide) ?_ | refine VC.seq ?_ | refine AO.nil ?_ | refine VC.block ?_))
      (refine AO.step fun K hK => ?_; simp only [go_sem, Int.reduceBEq, Int.reduceLE, Int.reduceLT, Int.reduceNeg, Nat.reduceAdd, Nat.reduceEqDiff, Nat.reduceLT, Nat.reduceLeDiff, Nat.reduceMul, Nat.reduceSub, reduceCtorEq, ↓reduceIte, VT.av, len_vcells, take_vcells, take_vcellsC, hp, hp', pureL_app, pureL_c, List.append_assoc]; (first | refine gsel_go ?_ | skip))
      refine .inl ⟨_, hcl, hK _ _ _ ?_⟩
      clear hK K
      refine walkG ?_
      refine VC.cond (by rfl) (by trivial) (fun hc2 => ?_) (fun hc2 => ?_)
      · have hne : ceq xs ys = false := by
          rw [ceq_false]
          intro e
          subst e
          rw [hx] at hy
          obtain rfl := Option.some.inj hy
          rw [ceq_self] at hc2
          simp at hc2
        refine walkG ?_
        refine ⟨.inr rfl, ?_⟩
        rw [Tryz.results59, hne]
        simp only [resOk, resV, go_sem, Int.reduceBEq, Int.reduceLE, Int.reduceLT, Int.reduceNeg, Nat.reduceAdd, Nat.reduceEqDiff, Nat.reduceLT, Nat.reduceLeDiff, Nat.reduceMul, Nat.reduceSub, reduceCtorEq, ↓reduceIte]
        exact .c _
      · have hxy : x = y := by
          rw [← ceq_iff]
          simpa using hc2
        refine walkGF (hw) ?_
        refine .next ⟨i + 1, by omega, ?_⟩ ?_ (by simp only []; omega)
        · rw [List.take_add_one, List.take_add_one, hx, hy, ht, hxy]
        simp only [sc_pureL hp, sc_pureL hp', Weak, eq_self, used_is, sc_any, sc_c, sc_pp, sc_ref, sc_row, sc_agg, sc_fn, ScL, some_imp, List.forall_mem_map, go_sem, Int.reduceBEq, Int.reduceLE, Int.reduceLT, Int.reduceNeg, Nat.reduceAdd, Nat.reduceEqDiff, Nat.reduceLT, Nat.reduceLeDiff, Nat.reduceMul, Nat.reduceSub, reduceCtorEq, ↓reduceIte]
        exact cI (by omega)
    · simp only [decide_eq_false_iff_not] at hc
      obtain rfl : i = xs.length := by omega
      have heq : ceq xs ys = true := by
        rw [List.take_length, hlen, List.take_length] at ht
        rw [ceq_iff, ht]
      refine walkG ?_
      refine ⟨.inr rfl, ?_⟩
      rw [Tryz.results59, heq]
      simp only [resOk, resV, go_sem, Int.reduceBEq, Int.reduceLE, Int.reduceLT, Int.reduceNeg, Nat.reduceAdd, Nat.reduceEqDiff, Nat.reduceLT, Nat.reduceLeDiff, Nat.reduceMul, Nat.reduceSub, reduceCtorEq, ↓reduceIte]
      exact .c _
theorem ceq_val (k n b : Int) (s : List UInt8) (xs : List VT) (ks : List (List UInt8)) (k' n' b' : Int) (s' : List UInt8) (xs' : List VT) (ks' : List (List UInt8)) :
    ceq (VT.mk k n b s xs ks) (VT.mk k' n' b' s' xs' ks') = (((((k == k') && (n == n')) && (b == b')) && (s == s')) && (ks == ks') && ceq xs xs') := by
  rw [Bool.eq_iff_iff]
  simp only [ceq_iff, Bool.and_eq_true, beq_iff_eq]
  constructor
  · intro h
    injection h with h1 h2 h3 h4 h5 h6
    exact ⟨⟨⟨⟨⟨h1, h2⟩, h3⟩, h4⟩, h6⟩, h5⟩
  · rintro ⟨⟨⟨⟨⟨rfl, rfl⟩, rfl⟩, rfl⟩, rfl⟩, rfl⟩
    rfl
set_option maxRecDepth 100000 in
set_option maxHeartbeats 400000 in
theorem bequal_told (s t : List UInt8) : Told Tryz.prog 57 [.c (.sl 1 (bytePV s)), .c (.sl 1 (bytePV t))] (.c (.v (.bool (s == t)))) := by
  have e : ∀ l : List UInt8, bstr (bytesOf (bytePV l)) = str l := fun l => by rw [bytesOf_pv]; rfl
  have hs := bytePV_ok s
  have ht := bytePV_ok t
  refine VC.told ent_57 Tryz.func57 rfl Tryz.ntmps57 (by simp) (by first | rfl | simp [AV.pureB, AV.pureL, pureL_c, pures]) (by first | rfl | simp [AV.pureB, AV.pureL, pureL_c, pures]) fun hb => ?_
  clear hb
  refine walkGF (And.intro e @str_toList) ?_
  refine ⟨by first | exact .inr rfl | exact .inl rfl, ?_⟩; rw [Tryz.results57]; simp only [resOk, resV, go_sem, Int.reduceBEq, Int.reduceLE, Int.reduceLT, Int.reduceNeg, Nat.reduceAdd, Nat.reduceEqDiff, Nat.reduceLT, Nat.reduceLeDiff, Nat.reduceMul, Nat.reduceSub, reduceCtorEq, ↓reduceIte]
  exact .c _
set_option maxRecDepth 100000 in
set_option maxHeartbeats 800000 in
theorem vsame_told : ∀ (m : Nat) (v w : VT), SizeOf.sizeOf v ≤ m → Told Tryz.prog 22 [v.av, w.av] (.c (.v (.bool (ceq v w)))) := by
  intro m
  induction m with
  | zero => intro v w hv; cases v; simp at hv
  | succ m ih =>
  intro v w hv
  cases v with
  | mk k n b s xs ks =>
  cases w with
  | mk k' n' b' s' xs' ks' =>
  have hB := bequal_told s s'
  have hS := sequal_told ks ks'
  have hE := eqfV_told (g := 22) (fs := []) (cs := []) rfl rfl xs xs' fun x hx y => ih x y (by
    have h3 := List.sizeOf_lt_of_mem hx
    simp at hv
    omega)
  have hV := ceq_val k n b s xs ks k' n' b' s' xs' ks'
  obtain ⟨V, hVV⟩ : ∃ V, V = ceq (VT.mk k n b s xs ks) (VT.mk k' n' b' s' xs' ks') := ⟨_, rfl⟩
  rw [← hVV] at hV ⊢
  clear hVV ih hv
  generalize (s == s') = b1 at hB hV
  generalize (ks == ks') = b2 at hS hV
  generalize ceq xs xs' = b3 at hE hV
  replace hV := Lib.hid hV
  rw [VT.av_eq, VT.av_eq, vcells_mk, vcells_mk]
  refine VC.told ent_22 Tryz.func22 rfl Tryz.ntmps22 (by simp) (by first | rfl | simp [AV.pureB, AV.pureL, pureL_c, pures]) (by first | rfl | simp [AV.pureB, AV.pureL, pureL_c, pures]) fun hb => ?_
  clear hb
  refine walkG ?_
  refine walkD (hB) ?_
  refine walkG ?_
  refine walkD (hS) ?_
  refine walkG ?_
  refine walkD (hE) ?_
  refine walkG ?_
  refine ⟨by first | exact .inr rfl | exact .inl rfl, ?_⟩; rw [Tryz.results22]; simp only [resOk, resV, go_sem, Int.reduceBEq, Int.reduceLE, Int.reduceLT, Int.reduceNeg, Nat.reduceAdd, Nat.reduceEqDiff, Nat.reduceLT, Nat.reduceLeDiff, Nat.reduceMul, Nat.reduceSub, reduceCtorEq, ↓reduceIte]
  rw [hV.out]
  exact .c _
set_option maxRecDepth 100000 in
set_option maxHeartbeats 800000 in
theorem vdeep_told : ∀ (m : Nat) (v : VT), SizeOf.sizeOf v ≤ m → vdeep v ≤ 1000 → v.sm 1000000 → Told Tryz.prog 24 [v.av] (.c (.v (.int .i64 (vdeep v)))) := by
  intro m
  induction m with
  | zero => intro v hv; cases v; simp at hv
  | succ m ih =>
  intro v hv hd hsm
  cases v with
  | mk k n b s xs ks =>
  obtain ⟨_, _, _, _, hxl, hxs⟩ := hsm
  rw [VT.av_eq, vcells_mk]
  refine VC.told ent_24 Tryz.func24 rfl Tryz.ntmps24 (by simp) (by first | rfl | simp [AV.pureB, AV.pureL, pureL_c, pures]) (by first | rfl | simp [AV.pureB, AV.pureL, pureL_c, pures]) fun hb => ?_
  clear hb
  refine walkG ?_
  rcases (by omega : (k ≠ 9 ∧ k ≠ 11 ∧ k ≠ 12 ∧ k ≠ 13) ∨ k = 9 ∨ k = 11 ∨ k = 12 ∨ k = 13) with ⟨h9, h11, h12, h13⟩ | hk
  · have e9 : (k == 9) = false := by simpa using h9
    have e11 : (k == 11) = false := by simpa using h11
    have e12 : (k == 12) = false := by simpa using h12
    have e13 : (k == 13) = false := by simpa using h13
    have hdd : vdeep (.mk k n b s xs ks) = 0 := by rw [vdeep, if_neg (by omega)]
    rw [hdd, e9]
    refine walkBF (And.intro e9 (And.intro e11 (And.intro e12 e13))) ?_
    refine ⟨by first | exact .inr rfl | exact .inl rfl, ?_⟩; rw [Tryz.results24]; simp only [resOk, resV, go_sem, Int.reduceBEq, Int.reduceLE, Int.reduceLT, Int.reduceNeg, Nat.reduceAdd, Nat.reduceEqDiff, Nat.reduceLT, Nat.reduceLeDiff, Nat.reduceMul, Nat.reduceSub, reduceCtorEq, ↓reduceIte]
    exact .c _
  have hdd : vdeep (.mk k n b s xs ks) = vdeeps 1 xs := by rw [vdeep, if_pos hk]
  rw [hdd] at hd ⊢
  clear hdd
  rcases hk with rfl | rfl | rfl | rfl
  all_goals
    refine walkB ?_
    refine VC.loop (ι := {i : Nat // i ≤ xs.length}) (fun i => [(3, .c (.v (.int .i64 (vdeeps 1 (xs.take i.1))))), (14, .c (.sl 6 (xs.map VT.cells))), (15, .c (.v (.int .i64 xs.length))), (16, .c (.v (.int .i64 i.1)))]) (fun _ => []) 0 (fun i => xs.length - i.1) ⟨0, Nat.zero_le _⟩ ?_ ?_
    · simp only [List.take_zero, vdeeps, List.map_nil, Weak, eq_self, used_is, sc_any, sc_c, sc_pp, sc_ref, sc_row, sc_agg, sc_fn, ScL, some_imp, List.forall_mem_map, go_sem, Int.reduceBEq, Int.reduceLE, Int.reduceLT, Int.reduceNeg, Nat.reduceAdd, Nat.reduceEqDiff, Nat.reduceLT, Nat.reduceLeDiff, Nat.reduceMul, Nat.reduceSub, reduceCtorEq, ↓reduceIte]
    rintro ⟨i, hi⟩
    refine walkG ?_
    refine VC.cond (by rfl) (by trivial) (fun hc => ?_) (fun hc => ?_)
    · simp only [decide_eq_true_eq] at hc
      have hlt : i < xs.length := by omega
      obtain ⟨x, hx⟩ : ∃ x, xs[i]? = some x := ⟨xs[i], List.getElem?_eq_getElem hlt⟩
      have hxm := List.mem_of_getElem? hx
      have hle := (vdeeps_le xs 1).2 x hxm
      have hcall := ih x (by
        have h1 := List.sizeOf_lt_of_mem hxm
        simp at hv
        omega) (by omega) (vsmL_mem hxs x hxm)
      have hmm : vdeeps 1 (xs.take (i + 1)) = max (vdeeps 1 (xs.take i)) (1 + vdeep x) := by
        rw [← vdeeps_snoc, List.take_add_one, hx]
        rfl
      have hxp : (xs.map VT.cells)[i]? = some x.cells := by rw [List.getElem?_map, hx]; rfl
      rw [VT.av_eq] at hcall
      have hw : IntKind.i64.wrap (1 + (vdeep x : Int)) = 1 + (vdeep x : Int) := wrap64_id (by omega) (by omega)
      have hw2 : IntKind.i64.wrap ((i : Int) + 1) = (i : Int) + 1 := wrap64_id (by omega) (by omega)
      refine walkGF (And.intro hxp (And.intro @len_vcells (And.intro @take_vcells @take_vcellsC))) ?_
      refine walkCF (@pureL_c) (hcall) ?_
      refine walkGF (And.intro hw hw2) ?_
      refine .next ⟨i + 1, by omega⟩ ?_ (by simp only []; omega)
      simp only [hmm, Weak, eq_self, used_is, sc_any, sc_c, sc_pp, sc_ref, sc_row, sc_agg, sc_fn, ScL, some_imp, List.forall_mem_map, go_sem, Int.reduceBEq, Int.reduceLE, Int.reduceLT, Int.reduceNeg, Nat.reduceAdd, Nat.reduceEqDiff, Nat.reduceLT, Nat.reduceLeDiff, Nat.reduceMul, Nat.reduceSub, reduceCtorEq, ↓reduceIte]
      exact ⟨cI (by omega), cI (by omega)⟩
    · simp only [decide_eq_false_iff_not] at hc
      obtain rfl : i = xs.length := by omega
      refine walkG ?_
      refine ⟨by first | exact .inr rfl | exact .inl rfl, ?_⟩; rw [Tryz.results24]; simp only [resOk, resV, go_sem, Int.reduceBEq, Int.reduceLE, Int.reduceLT, Int.reduceNeg, Nat.reduceAdd, Nat.reduceEqDiff, Nat.reduceLT, Nat.reduceLeDiff, Nat.reduceMul, Nat.reduceSub, reduceCtorEq, ↓reduceIte]
      rw [List.take_length]
      exact .c _
end
section

section
variable {P : Program} {N : Nat} {Q : Exit → ASt → Prop} {id : Nat} {o1 o2 : Oper} {t : Nat → AV} {h : Nat → Option Blkd} {n d1 d2 : Nat}
theorem eval_put {a : Act} {v : Value} (h : d1 < a.tmps.size) : (a.put (some d1) v).eval (.tmp d1) = v := by
  show (a.tmps.setIfInBounds d1 v).getD d1 undef = v
  simp [Array.getD, h]
theorem VC.nilq (ty ty' : TypeId) (x : Operand) (T : TyA) (z : Nat) (es : List (List PV)) (ho1 : o1.op = .move x) (hg1 : o1.guard = none) (hd1 : o1.dst = some d1)
    (ho2 : o2.op = .binOp .eql ty (.tmp d1) (.const (.slice none 0 0)) ty') (hg2 : o2.guard = none) (hd2 : o2.dst = some d2) (hx : okx t x) (ex : ev t x = .c (.sl z es)) (hT : tyA P ty = some T) (hk : T.kind = 1)
    (hd : dstOk [o1, o2].toArray N = true) (hL : Nat.ble (n + 8 * [o1, o2].length) L0 = true)
    (H : ∀ b : Bool, (es ≠ [] → b = false) → Q .normal ⟨putd (some d2) (.c (.v (.bool b))) (putd (some d1) (.c (.sl z es)) t), h, n + 8 * [o1, o2].length⟩) : VC P N (.region id [o1, o2].toArray false) ⟨t, h, n⟩ Q := ⟨fun C a W r => by
  obtain ⟨ro, φ, r⟩ := r
  have hdo := dst_of hd
  have hdn : d1 < N := hdo o1 (by simp) d1 hd1
  refine wp_region_list (wpList_step fun K hK => ?_)
  rw [if_pos (show Region.wanted o1 _ = true by unfold Region.wanted; rw [hg1])]
  have hrx := ev_rep r x hx
  have hsx := ev_sc r x hx
  rw [ex] at hrx hsx
  generalize hv : a.eval x = v at hrx
  have r1 := r.put (d := some d1) hrx hsx (fun k hk => by obtain rfl := Option.some.inj hk; exact hdn)
  have he1 : (a.put (some d1) v).eval (.tmp d1) = v := eval_put (by rw [r.size]; exact hdn)
  have hex1 : (execOp a.eval o1).run P W = .ok (.value v) W := by simp [execOp, ho1, hv]
  unfold Oper.wp
  rw [hex1]
  show K (a.put o1.dst v) W
  rw [hd1]
  refine hK _ _ (wpList_step fun K2 hK2 => ?_)
  rw [if_pos (show Region.wanted o2 _ = true by unfold Region.wanted; rw [hg2])]
  obtain ⟨d, i, a1, a2, rfl⟩ := tyA_some hT
  obtain ⟨e, rfl⟩ := kind_slice hk
  obtain ⟨b, hb, hrun⟩ : ∃ b : Bool, (es ≠ [] → b = false) ∧ (execOp (a.put (some d1) v).eval o2).run P W = .ok (.value (.bool b)) W := by
    cases hrx with
    | c hp =>
    cases hp with
    | @sl _ _ aa c vss hn hc hnil ha hvl hz1 hz2 hxx =>
      refine ⟨aa.isNone, fun hne => ?_, ?_⟩
      · obtain ⟨b, off, rfl, _⟩ := ha hne
        rfl
      · have he : (Op.equal ty (.slice aa es.length c) (.slice none 0 0)).run P W = .ok aa.isNone W := by
          show (Op.equalIn (9999 + 1) ty _ _).run P W = _
          rw [Op.equalIn]
          cases aa <;> simp [run_underlying a1]
        have hg : (eqGuard .eql ty (.tmp d1) (.const (.slice none 0 0)) (.slice aa es.length c) (.slice none 0 0)).run P W = .ok () W := by simp [eqGuard]
        have hn0 : (a.put (some d1) (.slice aa es.length c)).eval (.const (.slice none 0 0)) = .slice none 0 0 := rfl
        simp [execOp, ho2, he1, hn0, hg, binOp, he]
  have r2 := r1.put (d := some d2) (x := .c (.v (.bool b))) (v := .bool b) (.c (.v rfl)) .c (fun k hk => by obtain rfl := Option.some.inj hk; exact hdo o2 (by simp) _ hd2)
  unfold Oper.wp
  rw [hrun]
  show K2 ((a.put (some d1) v).put o2.dst (.bool b)) W
  rw [hd2]
  refine hK2 _ _ (wpList_nil ?_)
  refine ⟨_, H b hb, ro, φ, r2.take fun j hj => ?_⟩
  simp only [List.length_cons, List.length_nil] at hj ⊢
  unfold Used at hj ⊢
  omega⟩
end
end
section
attribute [local go_sem] opx opE ev okx gcond bnd okO AV.get AV.okb cAV upd_at putd_some putd_none wrs_nil wrs_cons look_nil look_cons st argT_at bpick_and bpick_or bpick_true bpick_false binV binI binS binVOk binOk isShift binSOk unV unVOk loadV loadP cellsA zeroA Blkd.len setE grown moreA moreR moreOk eqRes pv fillA fillE putSeg AV.cellish AV.pureL AV.pureB lentL_is ex_some AV.ren AV.renL renL_c Blkd.ren rho wrM renN lentOk rhoE keepM endOk tyA_2 tyA_3 tyA_4 tyA_5 tyA_6 tyA_7 tyA_8 tyA_9 tyA_10 tyA_11 tyA_12 tyA_13 tyA_14 tyA_15 tyA_16 tyA_17 tyA_18 tyA_19 tyA_21 tyA_22 tyA_23 tyA_24 tyA_29 tyA_30 tyA_31 tyA_32 tyA_33 tyA_34 tyA_35 tyA_36 tyA_37 tyA_38 tyA_39 tyA_40 tyA_41 tyA_42 tyA_43 tyA_51 tyA_73 tyA_77 tyA_99 tyA_100 tyA_101 tyA_114 tyA_120 tyA_121 tyA_122 tyA_131 tyA_132 tyA_133 tyA_134 tyA_135 tyA_138 tyA_139 tyA_140 tyA_149 tyA_163 tyA_168 tyA_210 tyA_212 tyA_219 tyA_227 tyA_231 tyA_233 tyA_237 tyA_238 tyA_239 tyA_240 tyA_241 tyA_243 tyA_244 tyA_246 tyA_247 tyA_248 tyA_251 Option.map_some Option.map_none Option.getD_some Option.getD_none Option.bind_some Option.bind_none List.getElem?_cons_zero List.getElem?_cons_succ List.getElem?_nil List.getElem?_toArray List.length_cons List.length_nil List.length_map List.forall_mem_map List.map_cons List.map_nil List.drop_zero List.drop_succ_cons List.drop_nil List.take_zero List.take_succ_cons List.take_nil List.mem_cons List.not_mem_nil or_false forall_eq_or_imp forall_eq List.set_cons_zero List.set_cons_succ List.cons_append List.nil_append List.append_nil List.foldl_cons List.foldl_nil List.replicate_succ List.replicate_zero List.all_cons List.all_nil if_true if_false Bool.false_eq_true ne_eq not_false_eq_true not_true_eq_false true_and and_true and_self true_implies imp_self implies_true forall_const beq_self_eq_true Bool.and_true Bool.true_and Bool.and_false Bool.false_and Bool.or_true Bool.true_or Bool.or_false Bool.false_or Bool.not_true Bool.not_false Bool.not_eq_eq_eq_not intKindOf Value.oneCell' Int.toNat_natCast beq_true beq_false Bool.not_eq_true false_implies false_or true_or or_true Nat.zero_add Nat.add_zero decide_true decide_false Int.cast_ofNat_Int Int.toNat_zero Int.toNat_one eq_self

def bP (b : UInt8) : List PV := [.v (.int .u8 (b.toNat : Int))]
theorem bP_row (l : List UInt8) : l.map bP = bytePV l := rfl
set_option maxRecDepth 100000 in
set_option maxHeartbeats 400000 in
theorem cloneV_told (es : List (VT)) (hl : es.length ≤ 1000000) : Told Tryz.prog 56 [.c (.sl 6 (es.map VT.cells))] (.c (.sl 6 (es.map VT.cells))) := by
  refine VC.told ent_56 Tryz.func56 rfl Tryz.ntmps56 (by simp) (by first | rfl | simp [AV.pureB, AV.pureL, pureL_c, pures]) (by first | rfl | simp [AV.pureB, AV.pureL, pureL_c, pures]) fun hb => ?_
  clear hb
  (refine VC.seq ?_; (first | refine VC.region (by rfl) (by rfl) ?_ | refine VC.draw mixP (by rfl) (by rfl) ?_); (repeat (refine AO.step fun K hK => ?_; simp only [go_sem, Int.reduceBEq, Int.reduceLE, Int.reduceLT, Int.reduceNeg, Nat.reduceAdd, Nat.reduceEqDiff, Nat.reduceLT, Nat.reduceLeDiff, Nat.reduceMul, Nat.reduceSub, reduceCtorEq, ↓reduceIte]; (first | refine gsel_skip ?_ | refine gsel_go ?_ | skip); (first | refine hK _ _ _ ?_ | refine ⟨by first | omega | exact ⟨_, rfl, rfl⟩ | exact fun _ => ⟨_, rfl, rfl⟩ | (intro h; simp only [h, true_and]; omega) | (clear hK; intro h; simp_all <;> omega), hK _ _ _ ?_⟩); clear hK K)); refine AO.nil ?_; first | refine SQ.normal ?_ | refine ⟨okd_of (by kernel_rfl), SQ.normal ?_⟩)
  refine VC.seq ?_
  refine VC.seq ?_
  refine VC.nilq _ _ (.tmp 0) _ 6 (es.map VT.cells) rfl rfl rfl rfl rfl rfl trivial rfl tyA_41 rfl (by rfl) (by rfl) fun b hb0 => ?_
  refine SQ.normal ?_
  cases b with
  | true =>
    have he : es = [] := by
      cases es with
      | nil => rfl
      | cons x l => exact absurd (hb0 (by simp)) (by simp)
    subst he
    refine walkB ?_
    refine ⟨by first | exact .inr rfl | exact .inl rfl, ?_⟩; rw [Tryz.results56]; simp only [resOk, resV, go_sem, Int.reduceBEq, Int.reduceLE, Int.reduceLT, Int.reduceNeg, Nat.reduceAdd, Nat.reduceEqDiff, Nat.reduceLT, Nat.reduceLeDiff, Nat.reduceMul, Nat.reduceSub, reduceCtorEq, ↓reduceIte]
    exact .nil 6
  | false =>
    refine walkB ?_
    refine ⟨by first | exact .inr rfl | exact .inl rfl, ?_⟩; rw [Tryz.results56]; simp only [resOk, resV, go_sem, Int.reduceBEq, Int.reduceLE, Int.reduceLT, Int.reduceNeg, Nat.reduceAdd, Nat.reduceEqDiff, Nat.reduceLT, Nat.reduceLeDiff, Nat.reduceMul, Nat.reduceSub, reduceCtorEq, ↓reduceIte]
    refine frz_rA (f := VT.cells) (l := es) (T := 43) ?_ ?_ rfl (fun x _ => len_vcells x)
    · simp [upd_at, rA_pv]
    · simp
set_option maxRecDepth 100000 in
set_option maxHeartbeats 400000 in
theorem cloneV_toldM (es : List (VT)) (hne : es ≠ []) (hl : es.length ≤ 1000000) : ToldM Tryz.prog 56 [.c (.sl 6 (es.map VT.cells))] [] [some ⟨true, 43, 6, rA VT.cells es⟩] (.row 1000000 es.length) := by
  refine VC.toldM ent_56 [24] Tryz.func56 rfl Tryz.ntmps56 (by simp) (by simp only [ rA_len, rA_sc, ScM, zOk, inL, eq_self, used_is, sc_any, sc_c, sc_pp, sc_ref, sc_row, sc_agg, sc_tup, sc_fn, ScL, some_imp, List.forall_mem_map, Nat.le_refl, go_sem, Int.reduceBEq, Int.reduceLE, Int.reduceLT, Int.reduceNeg, Nat.reduceAdd, Nat.reduceEqDiff, Nat.reduceLT, Nat.reduceLeDiff, Nat.reduceMul, Nat.reduceSub, reduceCtorEq, ↓reduceIte]) (by simp only [ rA_len, rA_sc, ScM, zOk, inL, eq_self, used_is, sc_any, sc_c, sc_pp, sc_ref, sc_row, sc_agg, sc_tup, sc_fn, ScL, some_imp, List.forall_mem_map, Nat.le_refl, go_sem, Int.reduceBEq, Int.reduceLE, Int.reduceLT, Int.reduceNeg, Nat.reduceAdd, Nat.reduceEqDiff, Nat.reduceLT, Nat.reduceLeDiff, Nat.reduceMul, Nat.reduceSub, reduceCtorEq, ↓reduceIte]) (by simp only [ rA_len, rA_sc, ScM, zOk, inL, eq_self, used_is, sc_any, sc_c, sc_pp, sc_ref, sc_row, sc_agg, sc_tup, sc_fn, ScL, some_imp, List.forall_mem_map, Nat.le_refl, go_sem, Int.reduceBEq, Int.reduceLE, Int.reduceLT, Int.reduceNeg, Nat.reduceAdd, Nat.reduceEqDiff, Nat.reduceLT, Nat.reduceLeDiff, Nat.reduceMul, Nat.reduceSub, reduceCtorEq, ↓reduceIte]) (by simp only [ rA_len, rA_sc, ScM, zOk, inL, eq_self, used_is, sc_any, sc_c, sc_pp, sc_ref, sc_row, sc_agg, sc_tup, sc_fn, ScL, some_imp, List.forall_mem_map, Nat.le_refl, go_sem, Int.reduceBEq, Int.reduceLE, Int.reduceLT, Int.reduceNeg, Nat.reduceAdd, Nat.reduceEqDiff, Nat.reduceLT, Nat.reduceLeDiff, Nat.reduceMul, Nat.reduceSub, reduceCtorEq, ↓reduceIte]) (by simp) fun hb hbL => ?_
  clear hb hbL
  (refine VC.seq ?_; (first | refine VC.region (by rfl) (by rfl) ?_ | refine VC.draw mixP (by rfl) (by rfl) ?_); (repeat (refine AO.step fun K hK => ?_; simp only [go_sem, Int.reduceBEq, Int.reduceLE, Int.reduceLT, Int.reduceNeg, Nat.reduceAdd, Nat.reduceEqDiff, Nat.reduceLT, Nat.reduceLeDiff, Nat.reduceMul, Nat.reduceSub, reduceCtorEq, ↓reduceIte]; (first | refine gsel_skip ?_ | refine gsel_go ?_ | skip); (first | refine hK _ _ _ ?_ | refine ⟨by first | omega | exact ⟨_, rfl, rfl⟩ | exact fun _ => ⟨_, rfl, rfl⟩ | (intro h; simp only [h, true_and]; omega) | (clear hK; intro h; simp_all <;> omega), hK _ _ _ ?_⟩); clear hK K)); refine AO.nil ?_; first | refine SQ.normal ?_ | refine ⟨okd_of (by kernel_rfl), SQ.normal ?_⟩)
  refine VC.seq ?_
  refine VC.seq ?_
  refine VC.nilq _ _ (.tmp 0) _ 6 (es.map VT.cells) rfl rfl rfl rfl rfl rfl trivial rfl tyA_41 rfl (by rfl) (by rfl) fun b hb0 => ?_
  refine SQ.normal ?_
  have hb1 : b = false := hb0 (by cases es with | nil => exact absurd rfl hne | cons x l => simp)
  subst hb1
  have hpv := (rA_pv VT.cells es).symm
  refine walkB ?_
  refine ⟨by first | exact .inr rfl | exact .inl rfl, ?_⟩; rw [Tryz.results56]; simp only [List.length_map, hpv, rA_ren, resOk, resV, go_sem, Int.reduceBEq, Int.reduceLE, Int.reduceLT, Int.reduceNeg, Nat.reduceAdd, Nat.reduceEqDiff, Nat.reduceLT, Nat.reduceLeDiff, Nat.reduceMul, Nat.reduceSub, reduceCtorEq, ↓reduceIte]
  exact .keepW rfl
set_option maxRecDepth 100000 in
set_option maxHeartbeats 400000 in
theorem cloneB_told (es : List (UInt8)) (hl : es.length ≤ 1000000) : Told Tryz.prog 55 [.c (.sl 1 (es.map bP))] (.c (.sl 1 (es.map bP))) := by
  refine VC.told ent_55 Tryz.func55 rfl Tryz.ntmps55 (by simp) (by first | rfl | simp [AV.pureB, AV.pureL, pureL_c, pures]) (by first | rfl | simp [AV.pureB, AV.pureL, pureL_c, pures]) fun hb => ?_
  clear hb
  (refine VC.seq ?_; (first | refine VC.region (by rfl) (by rfl) ?_ | refine VC.draw mixP (by rfl) (by rfl) ?_); (repeat (refine AO.step fun K hK => ?_; simp only [go_sem, Int.reduceBEq, Int.reduceLE, Int.reduceLT, Int.reduceNeg, Nat.reduceAdd, Nat.reduceEqDiff, Nat.reduceLT, Nat.reduceLeDiff, Nat.reduceMul, Nat.reduceSub, reduceCtorEq, ↓reduceIte]; (first | refine gsel_skip ?_ | refine gsel_go ?_ | skip); (first | refine hK _ _ _ ?_ | refine ⟨by first | omega | exact ⟨_, rfl, rfl⟩ | exact fun _ => ⟨_, rfl, rfl⟩ | (intro h; simp only [h, true_and]; omega) | (clear hK; intro h; simp_all <;> omega), hK _ _ _ ?_⟩); clear hK K)); refine AO.nil ?_; first | refine SQ.normal ?_ | refine ⟨okd_of (by kernel_rfl), SQ.normal ?_⟩)
  refine VC.seq ?_
  refine VC.seq ?_
  refine VC.nilq _ _ (.tmp 0) _ 1 (es.map bP) rfl rfl rfl rfl rfl rfl trivial rfl tyA_40 rfl (by rfl) (by rfl) fun b hb0 => ?_
  refine SQ.normal ?_
  cases b with
  | true =>
    have he : es = [] := by
      cases es with
      | nil => rfl
      | cons x l => exact absurd (hb0 (by simp)) (by simp)
    subst he
    refine walkB ?_
    refine ⟨by first | exact .inr rfl | exact .inl rfl, ?_⟩; rw [Tryz.results55]; simp only [resOk, resV, go_sem, Int.reduceBEq, Int.reduceLE, Int.reduceLT, Int.reduceNeg, Nat.reduceAdd, Nat.reduceEqDiff, Nat.reduceLT, Nat.reduceLeDiff, Nat.reduceMul, Nat.reduceSub, reduceCtorEq, ↓reduceIte]
    exact .nil 1
  | false =>
    refine walkB ?_
    refine ⟨by first | exact .inr rfl | exact .inl rfl, ?_⟩; rw [Tryz.results55]; simp only [resOk, resV, go_sem, Int.reduceBEq, Int.reduceLE, Int.reduceLT, Int.reduceNeg, Nat.reduceAdd, Nat.reduceEqDiff, Nat.reduceLT, Nat.reduceLeDiff, Nat.reduceMul, Nat.reduceSub, reduceCtorEq, ↓reduceIte]
    refine frz_rA (f := bP) (l := es) (T := 5) ?_ ?_ rfl (fun x _ => rfl)
    · simp [upd_at, rA_pv]
    · simp

set_option maxRecDepth 100000 in
set_option maxHeartbeats 400000 in
theorem cloneS_told (es : List (List UInt8)) (hl : es.length ≤ 1000000) : Told Tryz.prog 46 [.c (.sl 1 (es.map sPV))] (.c (.sl 1 (es.map sPV))) := by
  refine VC.told ent_46 Tryz.func46 rfl Tryz.ntmps46 (by simp) (by first | rfl | simp [AV.pureB, AV.pureL, pureL_c, pures]) (by first | rfl | simp [AV.pureB, AV.pureL, pureL_c, pures]) fun hb => ?_
  clear hb
  (refine VC.seq ?_; (first | refine VC.region (by rfl) (by rfl) ?_ | refine VC.draw mixP (by rfl) (by rfl) ?_); (repeat (refine AO.step fun K hK => ?_; simp only [go_sem, Int.reduceBEq, Int.reduceLE, Int.reduceLT, Int.reduceNeg, Nat.reduceAdd, Nat.reduceEqDiff, Nat.reduceLT, Nat.reduceLeDiff, Nat.reduceMul, Nat.reduceSub, reduceCtorEq, ↓reduceIte]; (first | refine gsel_skip ?_ | refine gsel_go ?_ | skip); (first | refine hK _ _ _ ?_ | refine ⟨by first | omega | exact ⟨_, rfl, rfl⟩ | exact fun _ => ⟨_, rfl, rfl⟩ | (intro h; simp only [h, true_and]; omega) | (clear hK; intro h; simp_all <;> omega), hK _ _ _ ?_⟩); clear hK K)); refine AO.nil ?_; first | refine SQ.normal ?_ | refine ⟨okd_of (by kernel_rfl), SQ.normal ?_⟩)
  refine VC.seq ?_
  refine VC.seq ?_
  refine VC.nilq _ _ (.tmp 0) _ 1 (es.map sPV) rfl rfl rfl rfl rfl rfl trivial rfl tyA_29 rfl (by rfl) (by rfl) fun b hb0 => ?_
  refine SQ.normal ?_
  cases b with
  | true =>
    have he : es = [] := by
      cases es with
      | nil => rfl
      | cons x l => exact absurd (hb0 (by simp)) (by simp)
    subst he
    refine walkB ?_
    refine ⟨by first | exact .inr rfl | exact .inl rfl, ?_⟩; rw [Tryz.results46]; simp only [resOk, resV, go_sem, Int.reduceBEq, Int.reduceLE, Int.reduceLT, Int.reduceNeg, Nat.reduceAdd, Nat.reduceEqDiff, Nat.reduceLT, Nat.reduceLeDiff, Nat.reduceMul, Nat.reduceSub, reduceCtorEq, ↓reduceIte]
    exact .nil 1
  | false =>
    refine walkB ?_
    refine ⟨by first | exact .inr rfl | exact .inl rfl, ?_⟩; rw [Tryz.results46]; simp only [resOk, resV, go_sem, Int.reduceBEq, Int.reduceLE, Int.reduceLT, Int.reduceNeg, Nat.reduceAdd, Nat.reduceEqDiff, Nat.reduceLT, Nat.reduceLeDiff, Nat.reduceMul, Nat.reduceSub, reduceCtorEq, ↓reduceIte]
    refine frz_rA (f := sPV) (l := es) (T := 9) ?_ ?_ rfl (fun x _ => rfl)
    · simp [upd_at, rA_pv]
    · simp

theorem rA_self {α : Type} {f : α → List PV} {l : List α} {i : Nat} {x : α} (h : l[i]? = some x) : (rA f l).set i ((f x).map .c) = rA f l := by
  rw [rA_set]
  congr 1
  obtain ⟨h1, rfl⟩ := List.getElem?_eq_some_iff.1 h
  exact List.set_getElem_self h1

set_option maxRecDepth 100000 in
set_option maxHeartbeats 1600000 in
theorem vcopy_told : ∀ (m : Nat) (v : VT), SizeOf.sizeOf v ≤ m → v.sm 1000000 → Told Tryz.prog 21 [v.av] v.av := by
  intro m
  induction m with
  | zero => intro v hv; cases v; simp at hv
  | succ m ih =>
  intro v hv hsm
  cases v with
  | mk k n b s xs ks =>
  obtain ⟨_, hsl, hkl, hks, hxl, hxs⟩ := hsm
  have hx : ∀ x ∈ xs, Told Tryz.prog 21 [x.av] x.av := fun x hxm => ih x (by have := List.sizeOf_lt_of_mem hxm; simp at hv; omega) (vsmL_mem hxs x hxm)
  clear ih hv
  have hB := cloneB_told s hsl
  have hK := cloneS_told ks hkl
  have hKc := hK
  clear hK
  rw [bP_row] at hB
  rw [VT.av_eq, vcells_mk]
  by_cases hxe : xs = []
  · subst hxe
    have hI := cloneV_told [] (by simp)
    simp only [List.map_nil] at hI
    refine VC.told ent_21 Tryz.func21 rfl Tryz.ntmps21 (by simp) (by first | rfl | simp [AV.pureB, AV.pureL, pureL_c, pures]) (by first | rfl | simp [AV.pureB, AV.pureL, pureL_c, pures]) fun hb => ?_
    clear hb
    refine walkG ?_
    refine walkC (hB) ?_
    refine walkG ?_
    refine walkC (hI) ?_
    refine walkG ?_
    refine walkC (hKc) ?_
    refine walkG ?_
    refine VC.loop (ι := Unit) (fun _ => [(1, .ref 0 1 0 0), (2, .ref 8 1 0 0), (18, .c (.v (.int .i64 0))), (19, .c (.v (.int .i64 0)))])
      (fun _ => [(0, ⟨false, 43, 6, [[.c (.v (.int .i64 k)), .c (.v (.int .i64 n)), .c (.v (.int .u64 b)), .c (.sl 1 (bytePV s)), .c (.sl 6 []), .c (.sl 1 (ks.map sPV))]]⟩), (8, ⟨false, 43, 6, [[.c (.v (.int .i64 0)), .c (.v (.int .i64 0)), .c (.v (.int .u64 0)), .c (.v (.slice none 0 0)), .c (.v (.slice none 0 0)), .c (.v (.slice none 0 0))]]⟩)]) 800 (fun _ => 0) () ?_ ?_
    · simp only [Weak, eq_self, used_is, sc_any, sc_c, sc_pp, sc_ref, sc_row, sc_agg, sc_fn, ScL, some_imp, List.forall_mem_map, go_sem, Int.reduceBEq, Int.reduceLE, Int.reduceLT, Int.reduceNeg, Nat.reduceAdd, Nat.reduceEqDiff, Nat.reduceLT, Nat.reduceLeDiff, Nat.reduceMul, Nat.reduceSub, reduceCtorEq, ↓reduceIte]
      try simp
    rintro ⟨⟩
    refine walkB ?_
    refine ⟨by first | exact .inr rfl | exact .inl rfl, ?_⟩; rw [Tryz.results21]; simp only [resOk, resV, go_sem, Int.reduceBEq, Int.reduceLE, Int.reduceLT, Int.reduceNeg, Nat.reduceAdd, Nat.reduceEqDiff, Nat.reduceLT, Nat.reduceLeDiff, Nat.reduceMul, Nat.reduceSub, reduceCtorEq, ↓reduceIte]
    exact Frz.cs _ [.v (.int .i64 k), .v (.int .i64 n), .v (.int .u64 b), .sl 1 (bytePV s), .sl 6 [], .sl 1 (ks.map sPV)]
  · have hI := cloneV_toldM xs hxe hxl
    refine VC.told ent_21 Tryz.func21 rfl Tryz.ntmps21 (by simp) (by first | rfl | simp [AV.pureB, AV.pureL, pureL_c, pures]) (by first | rfl | simp [AV.pureB, AV.pureL, pureL_c, pures]) fun hb => ?_
    clear hb
    refine walkG ?_
    refine walkC (hB) ?_
    refine walkG ?_
    ((refine AO.step fun K hK => ?_; simp only [go_sem, Int.reduceBEq, Int.reduceLE, Int.reduceLT, Int.reduceNeg, Nat.reduceAdd, Nat.reduceEqDiff, Nat.reduceLT, Nat.reduceLeDiff, Nat.reduceMul, Nat.reduceSub, reduceCtorEq, ↓reduceIte]; (first | refine gsel_go ?_ | skip)); refine .inr (.inr (.inl ⟨?vy1, [], ?va1, ?vl1, ?vm1, ?cond1, ?cont1⟩)); (case cond1 => ((repeat' apply And.intro) <;> (try ((with_reducible show ToldM _ _ _ _ _ _); exact hI))); (all_goals first | trivial | (simp only [go_sem, Int.reduceBEq, Int.reduceLE, Int.reduceLT, Int.reduceNeg, Nat.reduceAdd, Nat.reduceEqDiff, Nat.reduceLT, Nat.reduceLeDiff, Nat.reduceMul, Nat.reduceSub, reduceCtorEq, ↓reduceIte]; done) | (simp; done) | rfl)); (first | refine hK _ _ _ ?_ | (simp only [go_sem, Int.reduceBEq, Int.reduceLE, Int.reduceLT, Int.reduceNeg, Nat.reduceAdd, Nat.reduceEqDiff, Nat.reduceLT, Nat.reduceLeDiff, Nat.reduceMul, Nat.reduceSub, reduceCtorEq, ↓reduceIte]; first | refine hK _ _ _ ?_ | refine ⟨rfl, hK _ _ _ ?_⟩)); clear hK K)
    refine walkGF (@rA_len) ?_
    refine walkC (hKc) ?_
    refine walkGF (@rA_len) ?_
    refine VC.loop (ι := {i : Nat // i ≤ xs.length}) (fun q => [(1, .ref 0 1 0 0), (2, .ref 8 1 0 0), (18, .c (.v (.int .i64 (xs.length : Int)))), (19, .c (.v (.int .i64 (q.1 : Int))))])
      (fun _ => [(0, ⟨false, 43, 6, [[.c (.v (.int .i64 k)), .c (.v (.int .i64 n)), .c (.v (.int .u64 b)), .c (.sl 1 (bytePV s)), .row 56 xs.length, .c (.sl 1 (ks.map sPV))]]⟩), (8, ⟨false, 43, 6, [[.c (.v (.int .i64 0)), .c (.v (.int .i64 0)), .c (.v (.int .u64 0)), .c (.v (.slice none 0 0)), .c (.v (.slice none 0 0)), .c (.v (.slice none 0 0))]]⟩),
        (56, ⟨true, 43, 6, rA VT.cells xs⟩)]) 800 (fun q => xs.length - q.1) ⟨0, Nat.zero_le _⟩ ?_ ?_
    · simp only [rA_len, rA_sc, rA_ren, Weak, eq_self, used_is, sc_any, sc_c, sc_pp, sc_ref, sc_row, sc_agg, sc_fn, ScL, some_imp, List.forall_mem_map, go_sem, Int.reduceBEq, Int.reduceLE, Int.reduceLT, Int.reduceNeg, Nat.reduceAdd, Nat.reduceEqDiff, Nat.reduceLT, Nat.reduceLeDiff, Nat.reduceMul, Nat.reduceSub, reduceCtorEq, ↓reduceIte]
      try simp
    clear hI hKc hB
    rintro ⟨i, hi⟩
    simp only []
    refine walkG ?_
    refine VC.cond (by rfl) (by trivial) (fun hc => ?_) (fun hc => ?_)
    · have hlt : i < xs.length := by simp at hc; omega
      obtain ⟨x, hxi⟩ : ∃ x, xs[i]? = some x := ⟨xs[i], List.getElem?_eq_getElem hlt⟩
      have hxp : (rA VT.cells xs)[i]? = some (x.cells.map .c) := rA_at hxi
      have hw : IntKind.i64.wrap ((i : Int) + 1) = (i : Int) + 1 := wrap64_id (by omega) (by omega)
      have hT := hx x (List.mem_of_getElem? hxi)
      have hset : (rA VT.cells xs).set i (x.cells.map .c) = rA VT.cells xs := rA_self hxi
      have hdr : (x.cells.map AV.c).drop 6 = [] := List.drop_eq_nil_of_le (by rw [List.length_map, len_vcells]; exact Nat.le_refl _)
      simp only [VT.av_eq] at hT
      refine walkGF (And.intro @rA_len (And.intro hxp (And.intro @len_vcells (And.intro @take_vcells @take_vcellsC)))) ?_
      refine walkCF (@pureL_c) (hT) ?_
      refine walkGF (And.intro @rA_len (And.intro hxp (And.intro @len_vcells (And.intro @take_vcells (And.intro @take_vcellsC (And.intro hdr (And.intro hset hw))))))) ?_
      refine .next ⟨i + 1, by omega⟩ ?_ (by simp only []; omega)
      simp only [rA_len, rA_sc, hdr, hset, Weak, eq_self, used_is, sc_any, sc_c, sc_pp, sc_ref, sc_row, sc_agg, sc_fn, ScL, some_imp, List.forall_mem_map, go_sem, Int.reduceBEq, Int.reduceLE, Int.reduceLT, Int.reduceNeg, Nat.reduceAdd, Nat.reduceEqDiff, Nat.reduceLT, Nat.reduceLeDiff, Nat.reduceMul, Nat.reduceSub, reduceCtorEq, ↓reduceIte]
      exact ⟨cI (by omega), Nat.le_refl _⟩
    · refine walkG ?_
      refine ⟨by first | exact .inr rfl | exact .inl rfl, ?_⟩; rw [Tryz.results21]; simp only [resOk, resV, go_sem, Int.reduceBEq, Int.reduceLE, Int.reduceLT, Int.reduceNeg, Nat.reduceAdd, Nat.reduceEqDiff, Nat.reduceLT, Nat.reduceLeDiff, Nat.reduceMul, Nat.reduceSub, reduceCtorEq, ↓reduceIte]
      exact Frz.aggL (.cons (.c _) (.cons (.c _) (.cons (.c _) (.cons (.c _) (.cons (frz_rA (f := VT.cells) (l := xs) (T := 43) rfl rfl rfl fun x _ => len_vcells x) (.cons (.c _) .nil))))))

theorem cellish_map (l : List PV) : ∀ x ∈ l.map AV.c, x.cellish = true := fun x hx => by
  obtain ⟨p, _, rfl⟩ := List.mem_map.1 hx
  rfl

def w11a : NT := ⟨11, [], [], [], [], false, [], 0, 1, []⟩
def w11b : NT := ⟨3, [], [], [], [], false, [], 0, 0, []⟩
def w11 : ST := ⟨[w11a, w11b], 0⟩
def w11o : VT := .mk 3 1 0 [] [] []
def w11l : VT := .mk 4 1 0 [] [] []
def w11v : VT := .mk 11 0 0 [] [w11o, w11o] []
def w11w : VT := .mk 11 0 0 [] [w11o, w11l] []
theorem w11_a : nodeM w11.nodes w11a = true := by
  unfold nodeM
  rw [if_neg (show ¬ w11a.kind = 9 by decide)]
  decide +kernel
theorem w11_b : nodeM w11.nodes w11b = true := by
  unfold nodeM
  rw [if_neg (show ¬ w11b.kind = 9 by decide)]
  decide +kernel
theorem w11_right : rightM w11 = true := by
  have h1 : orderedM w11 = true := by decide +kernel
  have h2 : diffM fullM (namesM w11.nodes) = true := by decide +kernel
  have h3 : rightL w11.nodes w11.nodes 0 (List.replicate w11.nodes.length 0) = true := by
    rw [show rightL w11.nodes w11.nodes = rightL w11.nodes [w11a, w11b] from rfl]
    rw [rightL, rightL, rightL, w11_a, w11_b]
    decide +kernel
  unfold rightM
  rw [h1, h2, h3]
  rfl
theorem w11_is : isM w11.nodes 0 w11v = true := by decide +kernel
theorem w11_not : isM w11.nodes 0 w11w = false := by decide +kernel
theorem w11_deep : vdeep w11v = 1 := by decide +kernel
theorem w11_sm : w11.sm 1000000 := by
  refine ⟨by decide, fun n hn => ?_⟩
  simp only [w11, List.mem_cons, List.not_mem_nil, or_false] at hn
  rcases hn with rfl | rfl
  · exact ⟨by decide, by decide, ⟨by decide, by simp [w11a]⟩, ⟨by decide, by simp [w11a]⟩, by decide, by decide, by simp [w11a]⟩
  · exact ⟨by decide, by decide, ⟨by decide, by simp [w11b]⟩, ⟨by decide, by simp [w11b]⟩, by decide, by decide, by simp [w11b]⟩
theorem w11o_sm : w11o.sm 1000000 := ⟨by decide, by decide, by decide, by simp, by decide, trivial⟩
theorem w11l_sm : w11l.sm 1000000 := ⟨by decide, by decide, by decide, by simp, by decide, trivial⟩
theorem w11v_sm : w11v.sm 1000000 := ⟨by decide, by decide, by decide, by simp, by decide, w11o_sm, w11o_sm, trivial⟩
theorem w11w_sm : w11w.sm 1000000 := ⟨by decide, by decide, by decide, by simp, by decide, w11o_sm, w11l_sm, trivial⟩
theorem w11_con : conM w11 0 w11v (rightM w11) = true := by
  unfold conM
  rw [w11_right, w11_is]
  rfl
theorem w11_con2 : conM w11 0 w11w (rightM w11) = false := by
  unfold conM
  rw [w11_right, w11_not]
  rfl
set_option maxRecDepth 100000 in
set_option maxHeartbeats 1600000 in
theorem works11_told : Told Tryz.prog 20 [] (.c (.v (.bool true))) := by
  have hA := vConforms_told w11 w11_sm w11v w11v_sm 0
  rw [w11_con] at hA
  have hB := vConforms_told w11 w11_sm w11w w11w_sm 0
  rw [w11_con2] at hB
  have hC := vcopy_told _ w11v (Nat.le_refl _) w11v_sm
  have hS := vsame_told _ w11v w11v (Nat.le_refl _)
  rw [ceq_self] at hS
  have hD := vdeep_told _ w11v (Nat.le_refl _) (by rw [w11_deep]; decide) w11v_sm
  rw [w11_deep] at hD
  simp only [ST.av_eq, scells_mk, List.map_cons, List.map_nil] at hA hB
  refine VC.told ent_20 Tryz.func20 rfl Tryz.ntmps20 (by simp) (by first | rfl | simp [AV.pureB, AV.pureL, pureL_c, pures]) (by first | rfl | simp [AV.pureB, AV.pureL, pureL_c, pures]) fun hb => ?_
  clear hb
  (refine VC.seq ?_; (first | refine VC.region (by rfl) (by rfl) ?_ | refine VC.draw mixP (by rfl) (by rfl) ?_); (repeat (refine AO.step fun K hK => ?_; simp only [go_sem, Int.reduceBEq, Int.reduceLE, Int.reduceLT, Int.reduceNeg, Nat.reduceAdd, Nat.reduceEqDiff, Nat.reduceLT, Nat.reduceLeDiff, Nat.reduceMul, Nat.reduceSub, reduceCtorEq, ↓reduceIte]; (first | refine gsel_skip ?_ | refine gsel_go ?_ | skip); (first | refine hK _ _ _ ?_ | refine ⟨by first | omega | exact ⟨_, rfl, rfl⟩ | exact fun _ => ⟨_, rfl, rfl⟩ | (intro h; simp only [h, true_and]; omega) | (clear hK; intro h; simp_all <;> omega), hK _ _ _ ?_⟩); clear hK K)); refine AO.nil ?_; first | refine SQ.normal ?_ | refine ⟨okd_of (by kernel_rfl), SQ.normal ?_⟩)
  (refine VC.seq ?_; (first | refine VC.region (by rfl) (by rfl) ?_ | refine VC.draw mixP (by rfl) (by rfl) ?_); (repeat (refine AO.step fun K hK => ?_; simp only [go_sem, Int.reduceBEq, Int.reduceLE, Int.reduceLT, Int.reduceNeg, Nat.reduceAdd, Nat.reduceEqDiff, Nat.reduceLT, Nat.reduceLeDiff, Nat.reduceMul, Nat.reduceSub, reduceCtorEq, ↓reduceIte]; (first | refine gsel_skip ?_ | refine gsel_go ?_ | skip); (first | refine hK _ _ _ ?_ | refine ⟨by first | omega | exact ⟨_, rfl, rfl⟩ | exact fun _ => ⟨_, rfl, rfl⟩ | (intro h; simp only [h, true_and]; omega) | (clear hK; intro h; simp_all <;> omega), hK _ _ _ ?_⟩); clear hK K)); refine AO.nil ?_; first | refine SQ.normal ?_ | refine ⟨okd_of (by kernel_rfl), SQ.normal ?_⟩)
  refine VC.frz [] [(1, .ref 40 1 0 0)] [(24, ⟨true, 33, 10, [w11a.cells.map .c, [.c (.v (.int .i64 3)), .c (.v (.string ⟨#[]⟩)), .c (.v (.slice none 0 0)), .c (.v (.slice none 0 0)), .c (.v (.slice none 0 0)), .c (.v (.bool false)), .c (.v (.string ⟨#[]⟩)), .c (.v (.int .i64 0)), .c (.v (.int .i64 0)), .c (.v (.slice none 0 0))]]⟩), (40, ⟨false, 24, 2, [[.row 24 2, .c (.v (.int .i64 0))]]⟩)] 400 ?_ ?_
  · simp only [rA_sc, rA_len, WeakF, used_is, sc_any, sc_c, sc_pp, sc_ref, sc_row, sc_agg, sc_fn, ScL, some_imp, List.forall_mem_map, go_sem, Int.reduceBEq, Int.reduceLE, Int.reduceLT, Int.reduceNeg, Nat.reduceAdd, Nat.reduceEqDiff, Nat.reduceLT, Nat.reduceLeDiff, Nat.reduceMul, Nat.reduceSub, reduceCtorEq, ↓reduceIte]
    exact ⟨.same _, .set (i := 0) (e' := w11a.cells.map .c) rfl (.cons (.same _) (.cons (.same _) (.cons (.nil 1) (.cons (.nil 9) (.cons (.nil 1) (.cons (.same _) (.cons (.same _) (.cons (.same _) (.cons (.same _) (.cons (.nil 1) .nil)))))))))) (cellish_map _), .same _⟩
  refine VC.frz [] [(1, .ref 40 1 0 0)] [(24, ⟨true, 33, 10, [w11a.cells.map .c, w11b.cells.map .c]⟩), (40, ⟨false, 24, 2, [[.row 24 2, .c (.v (.int .i64 0))]]⟩)] 400 ?_ ?_
  · simp only [rA_sc, rA_len, WeakF, used_is, sc_any, sc_c, sc_pp, sc_ref, sc_row, sc_agg, sc_fn, ScL, some_imp, List.forall_mem_map, go_sem, Int.reduceBEq, Int.reduceLE, Int.reduceLT, Int.reduceNeg, Nat.reduceAdd, Nat.reduceEqDiff, Nat.reduceLT, Nat.reduceLeDiff, Nat.reduceMul, Nat.reduceSub, reduceCtorEq, ↓reduceIte]
    exact ⟨.same _, .set (i := 1) (e' := w11b.cells.map .c) rfl (.cons (.same _) (.cons (.same _) (.cons (.nil 1) (.cons (.nil 9) (.cons (.nil 1) (.cons (.same _) (.cons (.same _) (.cons (.same _) (.cons (.same _) (.cons (.nil 1) .nil)))))))))) (cellish_map _), .same _⟩
  refine VC.frz [24] [(1, .ref 40 1 0 0)] [(40, ⟨false, 24, 2, [[.c (.sl 10 (w11.nodes.map NT.cells)), .c (.v (.int .i64 w11.root))]]⟩)] 400 ?_ ?_
  · simp only [rA_sc, rA_len, WeakF, used_is, sc_any, sc_c, sc_pp, sc_ref, sc_row, sc_agg, sc_fn, ScL, some_imp, List.forall_mem_map, go_sem, Int.reduceBEq, Int.reduceLE, Int.reduceLT, Int.reduceNeg, Nat.reduceAdd, Nat.reduceEqDiff, Nat.reduceLT, Nat.reduceLeDiff, Nat.reduceMul, Nat.reduceSub, reduceCtorEq, ↓reduceIte]
    exact ⟨.same _, .one (.cons (.row (B := ⟨true, 33, 10, [w11a.cells.map .c, w11b.cells.map .c]⟩) (es := w11.nodes.map NT.cells) (by simp) rfl rfl rfl rfl) (.cons (.same _) .nil)) (by simp [AV.cellish])⟩
  (refine VC.seq ?_; (first | refine VC.region (by rfl) (by rfl) ?_ | refine VC.draw mixP (by rfl) (by rfl) ?_); (repeat (refine AO.step fun K hK => ?_; simp only [go_sem, Int.reduceBEq, Int.reduceLE, Int.reduceLT, Int.reduceNeg, Nat.reduceAdd, Nat.reduceEqDiff, Nat.reduceLT, Nat.reduceLeDiff, Nat.reduceMul, Nat.reduceSub, reduceCtorEq, ↓reduceIte]; (first | refine gsel_skip ?_ | refine gsel_go ?_ | skip); (first | refine hK _ _ _ ?_ | refine ⟨by first | omega | exact ⟨_, rfl, rfl⟩ | exact fun _ => ⟨_, rfl, rfl⟩ | (intro h; simp only [h, true_and]; omega) | (clear hK; intro h; simp_all <;> omega), hK _ _ _ ?_⟩); clear hK K)); refine AO.nil ?_; first | refine SQ.normal ?_ | refine ⟨okd_of (by kernel_rfl), SQ.normal ?_⟩)
  refine VC.frz [] [(1, .ref 40 1 0 0), (2, .ref 416 1 0 0), (3, .ref 424 1 0 0)] [(40, ⟨false, 24, 2, [w11.cells.map .c]⟩), (416, ⟨false, 43, 6, [w11o.cells.map .c]⟩), (424, ⟨false, 43, 6, [w11l.cells.map .c]⟩)] 800 ?_ ?_
  · simp only [rA_sc, rA_len, WeakF, used_is, sc_any, sc_c, sc_pp, sc_ref, sc_row, sc_agg, sc_fn, ScL, some_imp, List.forall_mem_map, go_sem, Int.reduceBEq, Int.reduceLE, Int.reduceLT, Int.reduceNeg, Nat.reduceAdd, Nat.reduceEqDiff, Nat.reduceLT, Nat.reduceLeDiff, Nat.reduceMul, Nat.reduceSub, reduceCtorEq, ↓reduceIte]
    exact ⟨⟨.same _, .same _, .same _⟩, .same _, .one (.cons (.same _) (.cons (.same _) (.cons (.same _) (.cons (.nil 1) (.cons (.nil 6) (.cons (.nil 1) .nil)))))) (by simp [AV.cellish]), .one (.cons (.same _) (.cons (.same _) (.cons (.same _) (.cons (.nil 1) (.cons (.nil 6) (.cons (.nil 1) .nil)))))) (by simp [AV.cellish])⟩
  have lo : w11o.cells.length = 6 := rfl
  have ll : w11l.cells.length = 6 := rfl
  have to : (w11o.cells.map AV.c).take 6 = w11o.cells.map .c := rfl
  have tl : (w11l.cells.map AV.c).take 6 = w11l.cells.map .c := rfl
  (refine VC.seq ?_; (first | refine VC.region (by rfl) (by rfl) ?_ | refine VC.draw mixP (by rfl) (by rfl) ?_); (repeat (refine AO.step fun K hK => ?_; simp only [lo, to, go_sem, Int.reduceBEq, Int.reduceLE, Int.reduceLT, Int.reduceNeg, Nat.reduceAdd, Nat.reduceEqDiff, Nat.reduceLT, Nat.reduceLeDiff, Nat.reduceMul, Nat.reduceSub, reduceCtorEq, ↓reduceIte]; (first | refine gsel_skip ?_ | refine gsel_go ?_ | skip); (first | refine hK _ _ _ ?_ | refine ⟨by first | omega | exact ⟨_, rfl, rfl⟩ | exact fun _ => ⟨_, rfl, rfl⟩ | (intro h; simp only [lo, to, h, true_and]; omega) | (clear hK; intro h; simp_all <;> omega), hK _ _ _ ?_⟩); clear hK K)); refine AO.nil ?_; first | refine SQ.normal ?_ | refine ⟨okd_of (by kernel_rfl), SQ.normal ?_⟩)
  (refine VC.seq ?_; (first | refine VC.region (by rfl) (by rfl) ?_ | refine VC.draw mixP (by rfl) (by rfl) ?_); (repeat (refine AO.step fun K hK => ?_; simp only [lo, to, ll, tl, go_sem, Int.reduceBEq, Int.reduceLE, Int.reduceLT, Int.reduceNeg, Nat.reduceAdd, Nat.reduceEqDiff, Nat.reduceLT, Nat.reduceLeDiff, Nat.reduceMul, Nat.reduceSub, reduceCtorEq, ↓reduceIte]; (first | refine gsel_skip ?_ | refine gsel_go ?_ | skip); (first | refine hK _ _ _ ?_ | refine ⟨by first | omega | exact ⟨_, rfl, rfl⟩ | exact fun _ => ⟨_, rfl, rfl⟩ | (intro h; simp only [lo, to, ll, tl, h, true_and]; omega) | (clear hK; intro h; simp_all <;> omega), hK _ _ _ ?_⟩); clear hK K)); refine AO.nil ?_; first | refine SQ.normal ?_ | refine ⟨okd_of (by kernel_rfl), SQ.normal ?_⟩)
  refine VC.frz [816, 864] [(1, .ref 40 1 0 0), (4, .ref 832 1 0 0), (5, .ref 880 1 0 0)] [(40, ⟨false, 24, 2, [w11.cells.map .c]⟩), (832, ⟨false, 43, 6, [w11v.cells.map .c]⟩), (880, ⟨false, 43, 6, [w11w.cells.map .c]⟩)] 1600 ?_ ?_
  · simp only [rA_sc, rA_len, WeakF, used_is, sc_any, sc_c, sc_pp, sc_ref, sc_row, sc_agg, sc_fn, ScL, some_imp, List.forall_mem_map, go_sem, Int.reduceBEq, Int.reduceLE, Int.reduceLT, Int.reduceNeg, Nat.reduceAdd, Nat.reduceEqDiff, Nat.reduceLT, Nat.reduceLeDiff, Nat.reduceMul, Nat.reduceSub, reduceCtorEq, ↓reduceIte]
    exact ⟨⟨.same _, .same _, .same _⟩, .same _, .one (.cons (.same _) (.cons (.same _) (.cons (.same _) (.cons (.nil 1) (.cons (.row (B := ⟨true, 43, 6, [w11o.cells.map .c, w11o.cells.map .c]⟩) (es := [w11o.cells, w11o.cells]) (by simp) rfl rfl rfl rfl) (.cons (.nil 1) .nil)))))) (by simp [AV.cellish]), .one (.cons (.same _) (.cons (.same _) (.cons (.same _) (.cons (.nil 1) (.cons (.row (B := ⟨true, 43, 6, [w11o.cells.map .c, w11l.cells.map .c]⟩) (es := [w11o.cells, w11l.cells]) (by simp) rfl rfl rfl rfl) (.cons (.nil 1) .nil)))))) (by simp [AV.cellish])⟩
  simp only [VT.av_eq] at hA hB hC hS hD
  have lv := len_vcells w11v
  have tv := take_vcellsC w11v
  have tvn := take_vcells w11v
  have lw := len_vcells w11w
  have tw := take_vcellsC w11w
  have twn := take_vcells w11w
  generalize w11v.cells = cv at hA hC hS hD lv tv tvn ⊢
  generalize w11w.cells = cw at hB lw tw twn ⊢
  (repeat (first | refine pass ?_ | refine VC.region (by rfl) (by rfl) ?_ | (refine AO.step fun K hK => ?_; simp only [scells_mk, lv, tv, tvn, lw, tw, twn, go_sem, Int.reduceBEq, Int.reduceLE, Int.reduceLT, Int.reduceNeg, Nat.reduceAdd, Nat.reduceEqDiff, Nat.reduceLT, Nat.reduceLeDiff, Nat.reduceMul, Nat.reduceSub, reduceCtorEq, ↓reduceIte]; (first | refine gsel_skip ?_ | refine gsel_go ?_ | skip); (first | refine hK _ _ _ ?_ | refine ⟨by first | omega | exact ⟨_, rfl, rfl⟩ | exact fun _ => ⟨_, rfl, rfl⟩ | (intro h; simp only [scells_mk, lv, tv, tvn, lw, tw, twn, h, true_and]; omega) | (clear hK; intro h; simp_all <;> omega), hK _ _ _ ?_⟩); clear hK K) | refine VC.draw mixP (by rfl) (by rfl) ?_ | refine ⟨okd_of (by kernel_rfl), ?_⟩ | refine BQ.other (by decide) ?_ | refine VC.seq ?_ | refine AO.nil ?_ | refine VC.block ?_))
  refine walkCF (@pureL_c) (hA) ?_
  (repeat (first | refine pass ?_ | refine VC.region (by rfl) (by rfl) ?_ | (refine AO.step fun K hK => ?_; simp only [scells_mk, lv, tv, tvn, lw, tw, twn, go_sem, Int.reduceBEq, Int.reduceLE, Int.reduceLT, Int.reduceNeg, Nat.reduceAdd, Nat.reduceEqDiff, Nat.reduceLT, Nat.reduceLeDiff, Nat.reduceMul, Nat.reduceSub, reduceCtorEq, ↓reduceIte]; (first | refine gsel_skip ?_ | refine gsel_go ?_ | skip); (first | refine hK _ _ _ ?_ | refine ⟨by first | omega | exact ⟨_, rfl, rfl⟩ | exact fun _ => ⟨_, rfl, rfl⟩ | (intro h; simp only [scells_mk, lv, tv, tvn, lw, tw, twn, h, true_and]; omega) | (clear hK; intro h; simp_all <;> omega), hK _ _ _ ?_⟩); clear hK K) | refine VC.draw mixP (by rfl) (by rfl) ?_ | refine ⟨okd_of (by kernel_rfl), ?_⟩ | refine BQ.other (by decide) ?_ | refine VC.seq ?_ | refine AO.nil ?_ | refine VC.block ?_))
  refine walkCF (@pureL_c) (hB) ?_
  (repeat (first | refine pass ?_ | refine VC.region (by rfl) (by rfl) ?_ | (refine AO.step fun K hK => ?_; simp only [scells_mk, lv, tv, tvn, lw, tw, twn, go_sem, Int.reduceBEq, Int.reduceLE, Int.reduceLT, Int.reduceNeg, Nat.reduceAdd, Nat.reduceEqDiff, Nat.reduceLT, Nat.reduceLeDiff, Nat.reduceMul, Nat.reduceSub, reduceCtorEq, ↓reduceIte]; (first | refine gsel_skip ?_ | refine gsel_go ?_ | skip); (first | refine hK _ _ _ ?_ | refine ⟨by first | omega | exact ⟨_, rfl, rfl⟩ | exact fun _ => ⟨_, rfl, rfl⟩ | (intro h; simp only [scells_mk, lv, tv, tvn, lw, tw, twn, h, true_and]; omega) | (clear hK; intro h; simp_all <;> omega), hK _ _ _ ?_⟩); clear hK K) | refine VC.draw mixP (by rfl) (by rfl) ?_ | refine ⟨okd_of (by kernel_rfl), ?_⟩ | refine BQ.other (by decide) ?_ | refine VC.seq ?_ | refine AO.nil ?_ | refine VC.block ?_))
  refine walkCF (@pureL_c) (hC) ?_
  (repeat (first | refine pass ?_ | refine VC.region (by rfl) (by rfl) ?_ | (refine AO.step fun K hK => ?_; simp only [scells_mk, lv, tv, tvn, lw, tw, twn, go_sem, Int.reduceBEq, Int.reduceLE, Int.reduceLT, Int.reduceNeg, Nat.reduceAdd, Nat.reduceEqDiff, Nat.reduceLT, Nat.reduceLeDiff, Nat.reduceMul, Nat.reduceSub, reduceCtorEq, ↓reduceIte]; (first | refine gsel_skip ?_ | refine gsel_go ?_ | skip); (first | refine hK _ _ _ ?_ | refine ⟨by first | omega | exact ⟨_, rfl, rfl⟩ | exact fun _ => ⟨_, rfl, rfl⟩ | (intro h; simp only [scells_mk, lv, tv, tvn, lw, tw, twn, h, true_and]; omega) | (clear hK; intro h; simp_all <;> omega), hK _ _ _ ?_⟩); clear hK K) | refine VC.draw mixP (by rfl) (by rfl) ?_ | refine ⟨okd_of (by kernel_rfl), ?_⟩ | refine BQ.other (by decide) ?_ | refine VC.seq ?_ | refine AO.nil ?_ | refine VC.block ?_))
  refine walkCF (@pureL_c) (hS) ?_
  (repeat (first | refine pass ?_ | refine VC.region (by rfl) (by rfl) ?_ | (refine AO.step fun K hK => ?_; simp only [scells_mk, lv, tv, tvn, lw, tw, twn, go_sem, Int.reduceBEq, Int.reduceLE, Int.reduceLT, Int.reduceNeg, Nat.reduceAdd, Nat.reduceEqDiff, Nat.reduceLT, Nat.reduceLeDiff, Nat.reduceMul, Nat.reduceSub, reduceCtorEq, ↓reduceIte]; (first | refine gsel_skip ?_ | refine gsel_go ?_ | skip); (first | refine hK _ _ _ ?_ | refine ⟨by first | omega | exact ⟨_, rfl, rfl⟩ | exact fun _ => ⟨_, rfl, rfl⟩ | (intro h; simp only [scells_mk, lv, tv, tvn, lw, tw, twn, h, true_and]; omega) | (clear hK; intro h; simp_all <;> omega), hK _ _ _ ?_⟩); clear hK K) | refine VC.draw mixP (by rfl) (by rfl) ?_ | refine ⟨okd_of (by kernel_rfl), ?_⟩ | refine BQ.other (by decide) ?_ | refine VC.seq ?_ | refine AO.nil ?_ | refine VC.block ?_))
  refine walkCF (@pureL_c) (hD) ?_
  refine walkG ?_
  refine ⟨by first | exact .inr rfl | exact .inl rfl, ?_⟩; rw [Tryz.results20]; simp only [resOk, resV, go_sem, Int.reduceBEq, Int.reduceLE, Int.reduceLT, Int.reduceNeg, Nat.reduceAdd, Nat.reduceEqDiff, Nat.reduceLT, Nat.reduceLeDiff, Nat.reduceMul, Nat.reduceSub, reduceCtorEq, ↓reduceIte]
  exact .c _
end
section
open Go.RowKit Go.ChangeShapes Go.WideShapes Go.ChangeAt
inductive TyPV (P : Program) : TypeId → List PV → Prop
  | bool {t : TypeId} {b : Bool} (ht : P.underlying t = some .bool) : TyPV P t [.v (.bool b)]
  | int {t : TypeId} {k : IntKind} {n : Int} (ht : P.underlying t = some (.int k)) (hw : (Lit.int k n).wf = true) : TyPV P t [.v (.int k n)]
  | str {t : TypeId} {s : ByteArray} (ht : P.underlying t = some .string) (hs : s.size ≤ maxLen) : TyPV P t [.v (.string s)]
  | sl {t e : TypeId} {es : List (List PV)} (ht : P.underlying t = some (.slice e)) (hx : ∀ q ∈ es, TyPV P e q) : TyPV P t [.sl (P.cellsOf e) es]
  | struct {t : TypeId} {fs : Array Field} {ps : List PV} (ht : P.underlying t = some (.struct fs)) (hl : ps.length = P.cellsOf t)
      (hx : ∀ (i : Nat) (f : Field), fs[i]? = some f → TyPV P f.type ((ps.drop f.offset).take (P.cellsOf f.type))) : TyPV P t ps
def tiles (P : Program) : List Field → Nat → Nat → Bool
  | [], o, n => o == n
  | f :: fs, o, n => f.offset == o && tiles P fs (o + P.cellsOf f.type) n
def plainB (P : Program) (l : List TypeId) : Bool := l.all fun t => match P.underlying t with
  | some .bool => P.cellsOf t == 1 | some (.int _) => P.cellsOf t == 1 | some .string => P.cellsOf t == 1
  | some (.slice e) => l.contains e && decide (0 < P.cellsOf e) && (P.cellsOf t == 1)
  | some (.struct fs) => tiles P fs.toList 0 (P.cellsOf t) && fs.toList.all fun f => l.contains f.type
  | _ => false
theorem list_of {α : Type} {p : Nat → α → Prop} : ∀ (n : Nat), (∀ i, i < n → ∃ y, p i y) → ∃ l : List α, l.length = n ∧ ∀ (i : Nat) (y : α), l[i]? = some y → p i y
  | 0, _ => ⟨[], rfl, fun i y h => by simp at h⟩
  | n + 1, h => by
    obtain ⟨l, h1, h2⟩ := list_of n fun i hi => h i (by omega)
    obtain ⟨y, hy⟩ := h n (by omega)
    refine ⟨l ++ [y], by simp [h1], fun i z hz => ?_⟩
    by_cases hi : i < l.length
    · rw [List.getElem?_append_left hi] at hz
      exact h2 i z hz
    · rw [List.getElem?_append_right (by omega)] at hz
      cases hj : i - l.length with
      | zero =>
        rw [hj] at hz
        simp at hz
        subst hz
        rw [show i = n by omega]
        exact hy
      | succ j => rw [hj] at hz; simp at hz
section
variable {P : Program} {w : World}
theorem PRepL.cons_app {ro : Nat → Prop} {p q : List PV} {v u : List Value} (h : PRepL w ro p v) (h' : PRepL w ro q u) : PRepL w ro (p ++ q) (v ++ u) := by
  refine ⟨by simp [h.1, h'.1], fun j x y h1 h2 => ?_⟩
  by_cases hj : j < p.length
  · rw [List.getElem?_append_left hj] at h1
    rw [List.getElem?_append_left (by rw [h.1]; exact hj)] at h2
    exact h.2 j x y h1 h2
  · rw [List.getElem?_append_right (by omega)] at h1
    rw [List.getElem?_append_right (by rw [h.1]; omega), h.1] at h2
    exact h'.2 _ x y h1 h2
theorem tile_rep {ro : Nat → Prop} {cs : List Value} {n : Nat} (hn : cs.length = n) : ∀ (fs : List Field) (o : Nat), o ≤ n → tiles P fs o n = true →
    (∀ f ∈ fs, ∃ q, PRepL w ro q ((cs.drop f.offset).take (P.cellsOf f.type)) ∧ q.length = P.cellsOf f.type ∧ TyPV P f.type q) →
    ∃ ps, PRepL w ro ps (cs.drop o) ∧ ps.length = n - o ∧ ∀ (i : Nat) (f : Field), fs[i]? = some f → o ≤ f.offset ∧ TyPV P f.type ((ps.drop (f.offset - o)).take (P.cellsOf f.type)) := by
  intro fs
  induction fs with
  | nil =>
    intro o ho ht _
    simp [tiles] at ht
    subst ht
    exact ⟨[], ⟨by simp [← hn], by simp⟩, by simp, by simp⟩
  | cons f fs ih =>
    intro o ho ht hf
    simp only [tiles, Bool.and_eq_true, beq_iff_eq] at ht
    obtain ⟨h1, h2⟩ := ht
    obtain ⟨q, hq1, hq2, hq3⟩ := hf f (by simp)
    have hle : o + P.cellsOf f.type ≤ n := by
      have := hq1.1
      rw [hq2, List.length_take, List.length_drop, h1, hn] at this
      omega
    obtain ⟨ps, hp1, hp2, hp3⟩ := ih _ hle h2 fun g hg => hf g (by simp [hg])
    have hsp : cs.drop o = (cs.drop o).take (P.cellsOf f.type) ++ cs.drop (o + P.cellsOf f.type) := by
      rw [← List.drop_drop, List.take_append_drop]
    refine ⟨q ++ ps, ?_, by simp [hq2, hp2]; omega, fun i g hg => ?_⟩
    · rw [hsp]
      rw [h1] at hq1
      exact hq1.cons_app hp1
    · cases i with
      | zero =>
        simp at hg
        subst hg
        refine ⟨by omega, ?_⟩
        rw [h1, Nat.sub_self, List.drop_zero, ← hq2, List.take_left]
        exact hq3
      | succ i =>
        simp at hg
        obtain ⟨h3, h4⟩ := hp3 i g hg
        refine ⟨by omega, ?_⟩
        rw [show g.offset - o = q.length + (g.offset - (o + P.cellsOf f.type)) by omega, List.drop_append, List.drop_of_length_le (by omega), List.nil_append, Nat.add_sub_cancel_left]
        exact h4
variable {H : Type} {enc : TypeId × Value → H} {sp : Nat → Bool} {held : Bool}
theorem lit_prep {W : World} {ro : Nat → Prop} {v : Value} (hv : v.oneCell' = true) : PRepL W ro [.v v] [v] := ⟨rfl, fun j p u h1 h2 => by
  cases j with
  | zero => simp at h1 h2; subst h1 h2; exact .v hv
  | succ j => simp at h1⟩
theorem open_pv {l : List TypeId} (hl : plainB P l = true) : ∀ (fuel : Nat) (t : TypeId) (cs : List Value) (x : DataW H × List MemPlace), t ∈ l → DataW.trod enc P w 0 sp held fuel t cs = some x →
    ∃ ps, PRepL w (fun b => b < w.heap.size) ps cs ∧ ps.length = P.cellsOf t ∧ TyPV P t ps := by
  intro fuel
  induction fuel using Nat.strongRecOn with
  | ind fuel ih =>
  intro t cs x ht h
  have hk := List.all_eq_true.1 hl t ht
  split at hk
  · rename_i hu
    obtain ⟨b, rfl, _⟩ := DataW.trod_bool hu h
    exact ⟨_, lit_prep rfl, (by simpa using hk : P.cellsOf t = 1).symm, .bool hu⟩
  · rename_i k hu
    obtain ⟨n, rfl, _, hw⟩ := DataW.trod_int hu h
    exact ⟨_, lit_prep rfl, (by simpa using hk : P.cellsOf t = 1).symm, .int hu hw⟩
  · rename_i hu
    obtain ⟨s, rfl, _, hs⟩ := DataW.trod_string hu h
    exact ⟨_, lit_prep rfl, (by simpa using hk : P.cellsOf t = 1).symm, .str hu hs⟩
  · rename_i e hu
    simp only [Bool.and_eq_true, List.contains_iff_mem, decide_eq_true_eq, beq_iff_eq] at hk
    obtain ⟨⟨he, hz⟩, hone⟩ := hk
    rcases DataW.trod_slice hu h with ⟨rfl, _⟩ | ⟨a, len, cap, elems, rest, n, rfl, rfl, _, hb, h1, h2, h3, h4, _, _⟩
    · exact ⟨[.sl (P.cellsOf e) []], ⟨rfl, fun j p u g1 g2 => by
        cases j with
        | zero => simp at g1 g2; subst g1 g2; exact PRep.nil _ _ _
        | succ j => simp at g1⟩, hone.symm, .sl hu (by simp)⟩
    · have hex : ∀ i, i < len → ∃ y : List Value × List PV, w.cells? 0 (a.add (i * P.cellsOf e)) (P.cellsOf e) = some y.1 ∧ PRepL w (fun b => b < w.heap.size) y.2 y.1 ∧ y.2.length = P.cellsOf e ∧ TyPV P e y.2 := by
        intro i hi
        have h5 := h4 i hi
        rw [List.getElem?_eq_getElem (show i < elems.length by omega), Option.bind_eq_some_iff] at h5
        obtain ⟨vs, h6, h7⟩ := h5
        obtain ⟨q, h8, h9, h10⟩ := ih n (by omega) e vs _ he h7
        exact ⟨(vs, q), h6, h8, h9, h10⟩
      obtain ⟨L, hL, hLx⟩ := list_of len hex
      have hcell : ∀ (i : Nat) (y : List Value × List PV), L[i]? = some y → y.1.length = P.cellsOf e ∧ ∀ j, j < P.cellsOf e → w.cell? ((a.add (i * P.cellsOf e)).add j) = y.1[j]? := fun i y hy => (World.cells?_some (hLx i y hy).1).2
      have hlen : len = (L.map (·.2)).length := by simp [hL]
      refine ⟨[.sl (P.cellsOf e) (L.map (·.2))], ⟨rfl, fun j p u g1 g2 => ?_⟩, hone.symm, .sl hu fun q hq => ?_⟩
      · cases j with
        | succ j => simp at g1
        | zero =>
        simp at g1 g2
        subst g1 g2
        rw [hlen]
        refine .sl (vss := L.map (·.1)) (by omega) (by unfold maxLen at h2; omega) (fun hn => by simp at hn) (fun hne => ?_) (by simp) (fun i q hq => ?_) (fun i vs hvs => ?_) (fun i j q vs p u hq hvs hp hv => ?_)
        · have hpos : 0 < L.length := List.length_pos_iff.2 (by intro e; apply hne; simp [e])
          obtain ⟨y0, hy0⟩ : ∃ y, L[0]? = some y := ⟨L[0], List.getElem?_eq_getElem hpos⟩
          obtain ⟨c1, c2⟩ := hcell 0 y0 hy0
          have c3 := c2 0 hz
          rw [List.getElem?_eq_getElem (show 0 < y0.1.length by omega)] at c3
          simp only [Nat.zero_mul] at c3
          have hspot := World.cell?_spot c3
          have hlt : a.block < w.heap.size := by
            unfold World.cell? at c3
            have : (a.add 0).add 0 = a := by simp [Addr.add]
            rw [this] at c3
            split at c3
            · rename_i hh
              exact (Array.getElem?_eq_some_iff.1 hh).1
            · simp at c3
          have ha : a = ⟨a.block, a.off, none⟩ := by
            cases a
            simp [Addr.add] at hspot
            simp [hspot]
          refine ⟨a.block, a.off, by rw [← ha], hlt, fun i vs hvs j hj => ?_⟩
          rw [List.getElem?_map] at hvs
          cases hq : L[i]? with
          | none => rw [hq] at hvs; simp at hvs
          | some y =>
            rw [hq] at hvs
            obtain rfl := Option.some.inj hvs
            obtain ⟨d1, d2⟩ := hcell i y hq
            have hj' : j < y.1.length := hj
            rw [← d2 j (by omega), ha, addr_add, addr_add]
        · rw [List.getElem?_map] at hq
          cases hy : L[i]? with
          | none => rw [hy] at hq; simp at hq
          | some y =>
            rw [hy] at hq
            obtain rfl := Option.some.inj hq
            exact (hLx i y hy).2.2.1
        · rw [List.getElem?_map] at hvs
          cases hy : L[i]? with
          | none => rw [hy] at hvs; simp at hvs
          | some y =>
            rw [hy] at hvs
            obtain rfl := Option.some.inj hvs
            exact (hcell i y hy).1
        · rw [List.getElem?_map] at hq hvs
          cases hy : L[i]? with
          | none => rw [hy] at hq; simp at hq
          | some y =>
            rw [hy] at hq hvs
            obtain rfl := Option.some.inj hq
            obtain rfl := Option.some.inj hvs
            exact (hLx i y hy).2.1.2 j p u hp hv
      · obtain ⟨y, hy, rfl⟩ := List.mem_map.1 hq
        obtain ⟨i, hi⟩ := List.mem_iff_getElem?.1 hy
        exact (hLx i y hi).2.2.2
  · rename_i fs hu
    simp only [Bool.and_eq_true] at hk
    obtain ⟨htl, hin⟩ := hk
    obtain ⟨xs, n, rfl, _, h1, h2, h3⟩ := DataW.trod_struct hu h
    obtain ⟨ps, hp1, hp2, hp3⟩ := tile_rep (P := P) (w := w) (ro := fun b => b < w.heap.size) (cs := cs) h1 fs.toList 0 (Nat.zero_le _) htl fun f hf => by
      obtain ⟨i, hi⟩ := List.mem_iff_getElem?.1 hf
      have hi' : fs[i]? = some f := by simpa using hi
      have hlt := (Array.getElem?_eq_some_iff.1 hi').1
      have h4 := h3 i f hi'
      rw [List.getElem?_eq_getElem (show i < xs.length by omega)] at h4
      have hm : f.type ∈ l := by simpa using List.all_eq_true.1 hin f hf
      obtain ⟨q, h5, h6, h7⟩ := ih n (by omega) f.type _ _ hm h4
      exact ⟨q, h5, h6, h7⟩
    refine ⟨ps, by simpa using hp1, by rw [hp2]; simp, .struct hu (by rw [hp2]; simp) fun i f hf => ?_⟩
    simpa using (hp3 i f (by simpa using hf)).2
  · simp at hk
def TyAV (P : Program) (t : TypeId) (x : AV) : Prop := ∃ ps, TyPV P t ps ∧ (((∃ fs, P.underlying t = some (.struct fs)) ∧ x = .agg (ps.map .c)) ∨ ((∀ fs, P.underlying t ≠ some (.struct fs)) ∧ ∃ q, ps = [q] ∧ x = .c q))
theorem prepL_rep {W : World} {ro : Nat → Prop} {φ : Nat → Value} {h : Nat → Option Blkd} {ps : List PV} {cs : List Value} (hp : PRepL W ro ps cs) : Rep W ro φ h (.agg (ps.map .c)) (.agg cs.toArray) := by
  refine .agg (by simp [hp.1]) fun j x v h1 h2 => ?_
  rw [List.getElem?_map] at h1
  cases hq : ps[j]? with
  | none => rw [hq] at h1; simp at h1
  | some p =>
    rw [hq] at h1
    obtain rfl := Option.some.inj h1
    exact .c (hp.2 j p v hq h2)
theorem prepL_one {W : World} {ro : Nat → Prop} {φ : Nat → Value} {h : Nat → Option Blkd} {ps : List PV} {v : Value} (hp : PRepL W ro ps [v]) : ∃ q, ps = [q] ∧ Rep W ro φ h (.c q) v := by
  have := hp.1
  match ps, this with
  | [q], _ => exact ⟨q, rfl, .c (hp.2 0 q v rfl rfl)⟩
theorem open_arg {l : List TypeId} (hl : plainB P l = true) {t : TypeId} (ht : t ∈ l) {r : Reach} {base : Nat} {v : Value} {d : DataW H} {p : List MemPlace} (hval : Value.okWide P w r base t v) (h : DataW.Trod enc P w 0 sp held t v d p) :
    ∃ x, TyAV P t x ∧ Rep w (fun b => b < w.heap.size) φ0 h0 x v := by
  obtain ⟨fuel, hf⟩ := h
  obtain ⟨ps, h1, _, h3⟩ := open_pv hl fuel t _ _ ht hf
  have hk := List.all_eq_true.1 hl t ht
  have key : (∀ fs, P.underlying t ≠ some (.struct fs)) → v.cells.toList = [v] → ∃ x, TyAV P t x ∧ Rep w (fun b => b < w.heap.size) φ0 h0 x v := by
    intro hn hc
    rw [hc] at h1
    obtain ⟨q, rfl, hr⟩ := prepL_one (φ := φ0) (h := h0) h1
    exact ⟨_, ⟨_, h3, .inr ⟨hn, q, rfl, rfl⟩⟩, hr⟩
  split at hk
  · rename_i hu
    obtain ⟨b, rfl⟩ := okWide_bool hu hval
    exact key (by simp [hu]) rfl
  · rename_i k hu
    obtain ⟨n, rfl⟩ := okWide_int hu hval
    exact key (by simp [hu]) rfl
  · rename_i hu
    obtain ⟨s, rfl⟩ := okWide_string hu hval
    exact key (by simp [hu]) rfl
  · rename_i e hu
    obtain ⟨a, len, cap, rfl⟩ := okWide_slice hu hval
    exact key (by simp [hu]) rfl
  · rename_i fs hu
    obtain ⟨cs, rfl, _⟩ := okWide_struct hu hval
    exact ⟨_, ⟨_, h3, .inl ⟨⟨fs, hu⟩, rfl⟩⟩, by simpa [Value.cells] using prepL_rep h1⟩
  · simp at hk
theorem reps_nil {W : World} {ro : Nat → Prop} {φ : Nat → Value} {h : Nat → Option Blkd} : ∀ (j : Nat) (x : AV) (v : Value), ([] : List AV)[j]? = some x → ([] : List Value)[j]? = some v → Rep W ro φ h x v := fun j x v h1 => by simp at h1
theorem reps_cons {W : World} {ro : Nat → Prop} {φ : Nat → Value} {h : Nat → Option Blkd} {y : AV} {u : Value} {l : List AV} {vs : List Value} (hy : Rep W ro φ h y u) (hs : ∀ (j : Nat) (x : AV) (v : Value), l[j]? = some x → vs[j]? = some v → Rep W ro φ h x v) :
    ∀ (j : Nat) (x : AV) (v : Value), (y :: l)[j]? = some x → (u :: vs)[j]? = some v → Rep W ro φ h x v := fun j x v h1 h2 => by
  cases j with
  | zero => simp at h1 h2; subst h1 h2; exact hy
  | succ j => exact hs j x v (by simpa using h1) (by simpa using h2)
end
end
end Go.Proofs.YtmooihlndkgdaaaGreatDoor
