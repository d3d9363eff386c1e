/- Texts that lead to the law DfltFields, joined. -/
import Derived.Test.YtllnlmchjljhlaaGreatDoorPkDfltFieldsH
import Derived.Test.YtllnlmchjljhlaaGreatDoorPkDfltFieldsE
import Derived.Test.YtllnlmchjljhlaaGreatDoorPkDfltFieldsB
import Derived.Test.YtllnlmchjljhlaaGreatDoorPkDfltFieldsC
import Derived.Test.YtllnlmchjljhlaaGreatDoorPkDfltFieldsG
import Derived.Test.YtllnlmchjljhlaaGreatDoorPkDfltFieldsD
import Derived.Test.YtllnlmchjljhlaaGreatDoorPkDfltFieldsF
import Derived.Test.YtllnlmchjljhlaaGreatDoorPkDfltFieldsXAbB
import Derived.ProofKit
import Derived.OpenShut
import Derived.ChangeOld
import Derived.Below
import Derived.Test.YtllnlmchjljhlaaGreatDoorPkDfltFieldsA
namespace Go.Proofs.YtllnlmchjljhlaaGreatDoor
open Go.RowKit
set_option linter.unusedVariables false
set_option linter.unusedSimpArgs false
section
attribute [local go_sem] opx opE ev okx gcond bnd okO AV.get AV.okb cAV upd_at putd_some putd_none wrs_nil wrs_cons look_nil look_cons st argT_at bpick_and bpick_or bpick_true bpick_false binV binI binS binVOk binOk isShift binSOk unV unVOk loadV loadP cellsA zeroA Blkd.len setE grown moreA moreR moreOk eqRes pv fillA fillE putSeg AV.cellish AV.pureL AV.pureB lentL_is ex_some AV.ren AV.renL renL_c Blkd.ren rho wrM renN lentOk rhoE keepM endOk tyA_2 tyA_3 tyA_4 tyA_5 tyA_6 tyA_7 tyA_8 tyA_9 tyA_10 tyA_11 tyA_12 tyA_13 tyA_14 tyA_15 tyA_16 tyA_17 tyA_18 tyA_19 tyA_21 tyA_22 tyA_23 tyA_24 tyA_29 tyA_30 tyA_31 tyA_32 tyA_33 tyA_34 tyA_35 tyA_36 tyA_37 tyA_38 tyA_39 tyA_40 tyA_41 tyA_42 tyA_43 tyA_49 tyA_85 tyA_89 tyA_99 tyA_100 tyA_101 tyA_105 tyA_106 tyA_107 tyA_108 tyA_109 tyA_111 tyA_112 tyA_113 tyA_114 tyA_123 tyA_126 tyA_127 tyA_128 tyA_129 tyA_130 tyA_153 tyA_163 tyA_164 tyA_165 tyA_179 tyA_185 tyA_191 tyA_192 tyA_193 tyA_194 tyA_195 tyA_196 tyA_209 tyA_213 tyA_214 tyA_215 tyA_241 tyA_248 tyA_274 tyA_275 tyA_276 tyA_292 tyA_294 tyA_302 tyA_307 tyA_315 tyA_319 tyA_321 tyA_324 tyA_325 tyA_326 tyA_327 tyA_328 tyA_329 tyA_330 tyA_332 tyA_333 Option.map_some Option.map_none Option.getD_some Option.getD_none Option.bind_some Option.bind_none List.getElem?_cons_zero List.getElem?_cons_succ List.getElem?_nil List.getElem?_toArray List.length_cons List.length_nil List.length_map List.forall_mem_map List.map_cons List.map_nil List.drop_zero List.drop_succ_cons List.drop_nil List.take_zero List.take_succ_cons List.take_nil List.mem_cons List.not_mem_nil or_false forall_eq_or_imp forall_eq List.set_cons_zero List.set_cons_succ List.cons_append List.nil_append List.append_nil List.foldl_cons List.foldl_nil List.replicate_succ List.replicate_zero List.all_cons List.all_nil if_true if_false Bool.false_eq_true ne_eq not_false_eq_true not_true_eq_false true_and and_true and_self true_implies imp_self implies_true forall_const beq_self_eq_true Bool.and_true Bool.true_and Bool.and_false Bool.false_and Bool.or_true Bool.true_or Bool.or_false Bool.false_or Bool.not_true Bool.not_false Bool.not_eq_eq_eq_not intKindOf Value.oneCell' Int.toNat_natCast beq_true beq_false Bool.not_eq_true false_implies false_or true_or or_true Nat.zero_add Nat.add_zero decide_true decide_false Int.cast_ofNat_Int Int.toNat_zero Int.toNat_one eq_self

theorem take_step {ns : List NT} {l : List Int} {i : Nat} (h : i < ns.length) : (wstep ns l).take (i + 1) = (wstep ns l).take i ++ [foldW (wAt l) (fieldsAt ns i) 1] := by
  rw [List.take_add_one, wstep_at h]
  rfl
theorem fieldsAt_of {ns : List NT} {i : Nat} {n : NT} (h : ns[i]? = some n) : fieldsAt ns i = if n.kind = 9 then n.fields else [] := by rw [fieldsAt, h]
noncomputable def difT (a b : List Int) (i : Nat) : Bool := @decide (a.take i ≠ b.take i) (Classical.propDecidable _)
theorem difT_zero (a b : List Int) : difT a b 0 = false := by simp [difT]
theorem difT_next {a b : List Int} {i : Nat} {x y : Int} (hx : a[i]? = some x) (hy : b[i]? = some y) : difT a b (i + 1) = (difT a b i || (x != y)) := by
  have hla := (List.getElem?_eq_some_iff.1 hx).1
  have hlb := (List.getElem?_eq_some_iff.1 hy).1
  rw [Bool.eq_iff_iff]
  simp only [difT, decide_eq_true_eq, Bool.or_eq_true, bne_iff_ne, ne_eq]
  rw [List.take_add_one, List.take_add_one, hx, hy, Option.toList_some, Option.toList_some]
  constructor
  · intro h
    by_cases h1 : a.take i = b.take i
    · by_cases h2 : x = y
      · exact absurd (by rw [h1, h2]) h
      · exact .inr h2
    · exact .inl h1
  · rintro h e
    have := List.append_inj e (by simp; omega)
    rcases h with h | h
    · exact h this.1
    · exact h (List.cons.inj this.2).1
theorem difT_end {a b : List Int} {i : Nat} (ha : a.length = i) (hb : b.length = i) : difT a b i = false ↔ a = b := by
  simp only [difT, decide_eq_false_iff_not, ne_eq, Classical.not_not]
  rw [List.take_of_length_le (by omega), List.take_of_length_le (by omega)]
set_option maxRecDepth 100000 in
set_option maxHeartbeats 3200000 in
theorem rweights_told (s : ST) (hl : s.nodes.length ≤ 1000000) (hs : ∀ n ∈ s.nodes, n.sm 1000000) (hr : ∀ p, ∀ x ∈ fieldsAt s.nodes p, 0 ≤ x.type ∧ x.type < (s.nodes.length : Int)) (l : List Int) (hG : ∀ l', WOk s.nodes l' → wstep s.nodes l' = l' → l' = l) :
    Told Tryz.prog 107 [s.av] (.c (.sl 1 (l.map iPV))) := by
  rw [ST.av_eq, scells_mk]
  refine VC.told ent_107 Tryz.func107 rfl Tryz.ntmps107 (by simp) (by first | rfl | simp [AV.pureB, AV.pureL, pureL_c, pures]) (by first | rfl | simp [AV.pureB, AV.pureL, pureL_c, pures]) fun hb => ?_
  clear hb
  refine walkG ?_
  refine VC.nil 3 3 1 (by rfl) (by trivial) (by rfl) ?_
  refine VC.loop (ι := {i : Nat // i ≤ s.nodes.length}) (fun q => [(1, .ref 0 1 0 0), (3, .row 32 q.1), (4, .c (.v (.int .i64 (q.1 : Int))))]) (fun q => [(0, ⟨false, 24, 2, [s.cells.map .c]⟩), (32, ⟨true, 3, 1, rA iPV (List.replicate q.1 1)⟩)]) 800 (fun q => s.nodes.length - q.1)
    ⟨0, Nat.zero_le _⟩ ?_ ?_
  · simp only [rA_len, rA_sc, rA_nil, scells_mk, Weak, eq_self, used_is, sc_any, sc_c, sc_pp, sc_ref, sc_row, sc_agg, sc_fn, ScL, some_imp, List.forall_mem_map, go_sem, Int.reduceBEq, Int.reduceLE, Int.reduceLT, Int.reduceNeg, Nat.reduceAdd, Nat.reduceEqDiff, Nat.reduceLT, Nat.reduceLeDiff, Nat.reduceMul, Nat.reduceSub, reduceCtorEq, ↓reduceIte]
    try simp [rA_nil]
  rintro ⟨i, hi⟩
  simp only []
  refine walkGF (@scells_mk) ?_
  refine VC.cond (by rfl) (by trivial) (fun hc => ?_) (fun hc => ?_)
  · have hlt : i < s.nodes.length := by simp at hc; omega
    have hw : IntKind.i64.wrap ((i : Int) + 1) = (i : Int) + 1 := wrap64_id (by omega) (by omega)
    have hln : (rA iPV (List.replicate i 1)).length = i := by rw [rA_len]; simp
    have hap : rA iPV (List.replicate i 1) ++ [[.c (.v (.int .i64 1))]] = rA iPV (List.replicate (i + 1) 1) := by
      rw [List.replicate_succ']
      exact rA_one iPV _ 1
    have hl2 : (rA iPV (List.replicate (i + 1) 1)).length = i + 1 := by rw [rA_len]; simp
    refine walkGF (And.intro hln (And.intro hap hw)) ?_
    refine .next ⟨i + 1, by omega⟩ ?_ (by simp only []; omega)
    simp only [hl2, rA_sc, scells_mk, Weak, eq_self, used_is, sc_any, sc_c, sc_pp, sc_ref, sc_row, sc_agg, sc_fn, ScL, some_imp, List.forall_mem_map, go_sem, Int.reduceBEq, Int.reduceLE, Int.reduceLT, Int.reduceNeg, Nat.reduceAdd, Nat.reduceEqDiff, Nat.reduceLT, Nat.reduceLeDiff, Nat.reduceMul, Nat.reduceSub, reduceCtorEq, ↓reduceIte]
    exact ⟨cI (by omega), by rw [rA_len]; simp⟩
  have hie : i = s.nodes.length := by simp at hc; omega
  subst hie
  have hln : (rA iPV (List.replicate s.nodes.length 1)).length = s.nodes.length := by rw [rA_len]; simp
  refine walkG ?_
  refine VC.frz [32] [(1, .ref 0 1 0 0), (3, .c (.sl 1 ((List.replicate s.nodes.length 1).map iPV))), (5, .c (.v (.bool true)))] [(0, ⟨false, 24, 2, [s.cells.map .c]⟩)] 1600 ?_ ?_
  · simp only [rA_sc, rA_len, scells_mk, WeakF, used_is, sc_any, sc_c, sc_pp, sc_ref, sc_row, sc_agg, sc_fn, ScL, some_imp, List.forall_mem_map, go_sem, Int.reduceBEq, Int.reduceLE, Int.reduceLT, Int.reduceNeg, Nat.reduceAdd, Nat.reduceEqDiff, Nat.reduceLT, Nat.reduceLeDiff, Nat.reduceMul, Nat.reduceSub, reduceCtorEq, ↓reduceIte]
    exact ⟨⟨.same _, .row (B := ⟨true, 3, 1, rA iPV (List.replicate s.nodes.length 1)⟩) (es := (List.replicate s.nodes.length 1).map iPV) (by simp) rfl rfl hln (rA_pv _ _), .same _⟩, .same _⟩
  refine VC.loop (ι := {x : List Int × Bool // WOk s.nodes x.1 ∧ (x.2 = false → wstep s.nodes x.1 = x.1)}) (fun q => [(1, .ref 0 1 0 0), (3, .c (.sl 1 (q.1.1.map iPV))), (5, .c (.v (.bool q.1.2)))]) (fun q => [(0, ⟨false, 24, 2, [s.cells.map .c]⟩)]) 3200 (fun q => wlack q.1.1 * 2 + q.1.2.toNat)
    ⟨(List.replicate s.nodes.length 1, true), wok_one s.nodes, by simp⟩ ?_ ?_
  · simp only [scells_mk, Weak, eq_self, used_is, sc_any, sc_c, sc_pp, sc_ref, sc_row, sc_agg, sc_fn, ScL, some_imp, List.forall_mem_map, go_sem, Int.reduceBEq, Int.reduceLE, Int.reduceLT, Int.reduceNeg, Nat.reduceAdd, Nat.reduceEqDiff, Nat.reduceLT, Nat.reduceLeDiff, Nat.reduceMul, Nat.reduceSub, reduceCtorEq, ↓reduceIte]
  rintro ⟨⟨w, more⟩, hwk, hmore⟩
  simp only [] at hwk hmore ⊢
  refine walkG ?_
  refine VC.cond (by rfl) (by trivial) (fun hm => ?_) (fun hm => ?_)
  rotate_left
  · obtain rfl := hG w hwk (hmore hm)
    refine walkG ?_
    refine ⟨by first | exact .inr rfl | exact .inl rfl, ?_⟩; rw [Tryz.results107]; simp only [resOk, resV, go_sem, simprocAttr]
    exact .c _
  subst hm
  obtain ⟨hwl, hwr, hwm⟩ := hwk
  have hwl2 : (w.map iPV).length = s.nodes.length := by simp [hwl]
  refine walkG ?_
  refine VC.nil 6 3 1 (by rfl) (by trivial) (by rfl) ?_
  refine VC.loop (ι := {i : Nat // i ≤ s.nodes.length}) (fun q => [(1, .ref 0 1 0 0), (3, .c (.sl 1 (w.map iPV))), (5, .c (.v (.bool (difT (wstep s.nodes w) w q.1)))), (6, .row 3232 q.1), (7, .c (.v (.int .i64 (q.1 : Int))))]) (fun q => [(0, ⟨false, 24, 2, [s.cells.map .c]⟩), (3232, ⟨true, 3, 1, rA iPV ((wstep s.nodes w).take q.1)⟩)]) 4800 (fun q => s.nodes.length - q.1)
    ⟨0, Nat.zero_le _⟩ ?_ ?_
  · simp only [rA_len, rA_sc, rA_nil, scells_mk, difT_zero, Weak, eq_self, used_is, sc_any, sc_c, sc_pp, sc_ref, sc_row, sc_agg, sc_fn, ScL, some_imp, List.forall_mem_map, go_sem, Int.reduceBEq, Int.reduceLE, Int.reduceLT, Int.reduceNeg, Nat.reduceAdd, Nat.reduceEqDiff, Nat.reduceLT, Nat.reduceLeDiff, Nat.reduceMul, Nat.reduceSub, reduceCtorEq, ↓reduceIte]
    done
  rintro ⟨i, hi⟩
  simp only []
  refine walkGF (@scells_mk) ?_
  refine VC.cond (by rfl) (by trivial) (fun hc => ?_) (fun hc => ?_)
  · have hlt : i < s.nodes.length := by simp at hc; omega
    obtain ⟨n, hn⟩ : ∃ n, s.nodes[i]? = some n := ⟨s.nodes[i], List.getElem?_eq_getElem hlt⟩
    have hnp : (s.nodes.map NT.cells)[i]? = some n.cells := by rw [List.getElem?_map, hn]; rfl
    have hw : IntKind.i64.wrap ((i : Int) + 1) = (i : Int) + 1 := wrap64_id (by omega) (by omega)
    have hfl := (hs n (List.mem_of_getElem? hn)).2.2.2.2.2.1
    obtain ⟨v, hv⟩ : ∃ v, w[i]? = some v := ⟨w[i]'(by omega), List.getElem?_eq_getElem (by omega)⟩
    have hvp : (w.map iPV)[i]? = some (iPV v) := by rw [List.getElem?_map, hv]; rfl
    have hwa := fun q => wAt_range hwr q
    have hsl : (wstep s.nodes w).length = s.nodes.length := by simp [wstep]
    have hln2 : (rA iPV ((wstep s.nodes w).take i)).length = i := by rw [rA_len]; simp; omega
    have hl2 : (rA iPV ((wstep s.nodes w).take (i + 1))).length = i + 1 := by rw [rA_len]; simp; omega
    have hst := take_step (l := w) hlt
    have hat := wstep_at (l := w) hlt
    have hdn := difT_next hat hv
    obtain ⟨T, hT⟩ : ∃ T, T = foldW (wAt w) (fieldsAt s.nodes i) 1 := ⟨_, rfl⟩
    rw [← hT] at hst hat hdn
    have hap : rA iPV ((wstep s.nodes w).take i) ++ [[.c (.v (.int .i64 T))]] = rA iPV ((wstep s.nodes w).take (i + 1)) := by
      rw [hst]
      exact rA_one iPV _ T
    have hfa := fieldsAt_of hn
    replace hdn := Lib.hid hdn
    have hlw : ∀ (F : List FT) (a : Int), a ≤ 1001 → foldW (wAt w) F a ≤ 1001 := fun F a h => foldW_le F a h
    have hgw : ∀ (F : List FT) (a : Int), a ≤ 1001 → a ≤ foldW (wAt w) F a := fun F a h => foldW_ge (fun q => (hwa q).1) F a h
    refine walkG ?_
    refine VC.loop (ι := {x : Nat × Int // x.1 ≤ n.fields.length ∧ 1 ≤ x.2 ∧ x.2 ≤ 2001 ∧ foldW (wAt w) ((if n.kind = 9 then n.fields else []).drop x.1) (min x.2 1001) = T}) (fun q => [(1, .ref 0 1 0 0), (3, .c (.sl 1 (w.map iPV))), (5, .c (.v (.bool (difT (wstep s.nodes w) w i)))), (6, .row 3232 i), (7, .c (.v (.int .i64 (i : Int)))), (8, .c (.v (.int .i64 q.1.2))), (9, .c (.v (.int .i64 (q.1.1 : Int))))])
      (fun q => [(0, ⟨false, 24, 2, [s.cells.map .c]⟩), (3232, ⟨true, 3, 1, rA iPV ((wstep s.nodes w).take i)⟩)]) 6400 (fun q => n.fields.length - q.1.1) ⟨(0, 1), Nat.zero_le _, by simp only []; omega, by simp only []; omega, by rw [hT, hfa]; rfl⟩ ?_ ?_
    · simp only [hln2, rA_sc, scells_mk, Weak, eq_self, used_is, sc_any, sc_c, sc_pp, sc_ref, sc_row, sc_agg, sc_fn, ScL, some_imp, List.forall_mem_map, go_sem, Int.reduceBEq, Int.reduceLE, Int.reduceLT, Int.reduceNeg, Nat.reduceAdd, Nat.reduceEqDiff, Nat.reduceLT, Nat.reduceLeDiff, Nat.reduceMul, Nat.reduceSub, reduceCtorEq, ↓reduceIte]
      exact Nat.le_refl _
    rintro ⟨⟨k, m⟩, hk, hm1, hm2, hfo⟩
    simp only [] at hk hm1 hm2 hfo ⊢
    refine walkGF (And.intro @scells_mk (And.intro hnp @ncells_mk)) ?_
    refine VC.cond (by rfl) (by trivial) (fun hc2 => ?_) (fun hc2 => ?_)
    · obtain ⟨hkl, h9, hmk⟩ : k < n.fields.length ∧ n.kind = 9 ∧ m ≤ 1000 := by
        simp at hc2
        omega
      obtain ⟨f, hf⟩ : ∃ f, n.fields[k]? = some f := ⟨n.fields[k], List.getElem?_eq_getElem hkl⟩
      have hfp : (n.fields.map FT.cells)[k]? = some f.cells := by rw [List.getElem?_map, hf]; rfl
      have hwk : IntKind.i64.wrap ((k : Int) + 1) = (k : Int) + 1 := wrap64_id (by omega) (by omega)
      obtain ⟨t0, t1⟩ := hr i f (by rw [hfa, if_pos h9]; exact List.mem_of_getElem? hf)
      obtain ⟨q, hq⟩ : ∃ q : Nat, f.type = (q : Int) := ⟨f.type.toNat, by omega⟩
      obtain ⟨u, hu⟩ : ∃ u, w[q]? = some u := ⟨w[q]'(by omega), List.getElem?_eq_getElem (by omega)⟩
      have hup : (w.map iPV)[q]? = some (iPV u) := by rw [List.getElem?_map, hu]; rfl
      have hur := hwr u (List.mem_of_getElem? hu)
      have hwu : IntKind.i64.wrap (m + u) = m + u := wrap64_id (by omega) (by omega)
      rw [if_pos h9, drop_at' hf, foldW, hq, Int.toNat_natCast, wAt_of hu] at hfo
      refine walkGF (And.intro @scells_mk (And.intro hnp (And.intro @ncells_mk (And.intro hfp (And.intro @fcells_mk (And.intro hq (And.intro hup (And.intro @iPV_eq (And.intro hwl2 (And.intro hwl (And.intro hwu hwk))))))))))) ?_
      refine .next ⟨(k + 1, m + u), by simp only []; omega, by simp only []; omega, by simp only []; omega, by
        simp only []
        rw [if_pos h9, ← hfo]
        congr 1
        omega⟩ ?_ (by simp only []; omega)
      simp only [hln2, rA_sc, scells_mk, Weak, eq_self, used_is, sc_any, sc_c, sc_pp, sc_ref, sc_row, sc_agg, sc_fn, ScL, some_imp, List.forall_mem_map, go_sem, Int.reduceBEq, Int.reduceLE, Int.reduceLT, Int.reduceNeg, Nat.reduceAdd, Nat.reduceEqDiff, Nat.reduceLT, Nat.reduceLeDiff, Nat.reduceMul, Nat.reduceSub, reduceCtorEq, ↓reduceIte]
      exact ⟨cI (by omega), Nat.le_refl _⟩
    · have hend : min m 1001 = T := by
        rw [← hfo]
        by_cases h9 : n.kind = 9
        · rw [if_pos h9]
          by_cases hkl : k < n.fields.length
          · have hmb : 1000 < m := by
              simp [h9] at hc2
              omega
            have a := hlw (n.fields.drop k) (min m 1001) (by omega)
            have b := hgw (n.fields.drop k) (min m 1001) (by omega)
            omega
          · rw [List.drop_of_length_le (by omega), foldW]
        · rw [if_neg h9, List.drop_nil, foldW]
      refine walkG ?_
      refine VC.cond (by rfl) (by trivial) (fun hc3 => ?_) (fun hc3 => ?_)
      · have hmT : T = 1001 := by
          rw [← hend]
          simp at hc3
          omega
        subst hmT
        refine walkGF (And.intro @scells_mk (And.intro hvp (And.intro @iPV_eq (And.intro hwl2 (And.intro hwl (And.intro hln2 (And.intro hap hw))))))) ?_
        refine .next ⟨i + 1, by omega⟩ ?_ (by simp only []; omega)
        simp only [hl2, rA_sc, scells_mk, hdn.out, Weak, eq_self, used_is, sc_any, sc_c, sc_pp, sc_ref, sc_row, sc_agg, sc_fn, ScL, some_imp, List.forall_mem_map, go_sem, Int.reduceBEq, Int.reduceLE, Int.reduceLT, Int.reduceNeg, Nat.reduceAdd, Nat.reduceEqDiff, Nat.reduceLT, Nat.reduceLeDiff, Nat.reduceMul, Nat.reduceSub, reduceCtorEq, ↓reduceIte]
        exact ⟨cI (by omega), Nat.le_refl _⟩
      · have hmT : m = T := by
          rw [← hend]
          simp at hc3
          omega
        subst hmT
        refine walkGF (And.intro @scells_mk (And.intro hvp (And.intro @iPV_eq (And.intro hwl2 (And.intro hwl (And.intro hln2 (And.intro hap hw))))))) ?_
        refine .next ⟨i + 1, by omega⟩ ?_ (by simp only []; omega)
        simp only [hl2, rA_sc, scells_mk, hdn.out, Weak, eq_self, used_is, sc_any, sc_c, sc_pp, sc_ref, sc_row, sc_agg, sc_fn, ScL, some_imp, List.forall_mem_map, go_sem, Int.reduceBEq, Int.reduceLE, Int.reduceLT, Int.reduceNeg, Nat.reduceAdd, Nat.reduceEqDiff, Nat.reduceLT, Nat.reduceLeDiff, Nat.reduceMul, Nat.reduceSub, reduceCtorEq, ↓reduceIte]
        exact ⟨cI (by omega), Nat.le_refl _⟩
  have hie : i = s.nodes.length := by simp at hc; omega
  have hsl : (wstep s.nodes w).length = s.nodes.length := by simp [wstep]
  subst hie
  rw [show (wstep s.nodes w).take s.nodes.length = wstep s.nodes w from List.take_of_length_le (by omega)]
  have hln3 : (rA iPV (wstep s.nodes w)).length = s.nodes.length := by rw [rA_len, hsl]
  obtain ⟨d, hd⟩ : ∃ d, d = difT (wstep s.nodes w) w s.nodes.length := ⟨_, rfl⟩
  rw [← hd]
  have hde := difT_end (a := wstep s.nodes w) (b := w) hsl hwl
  rw [← hd] at hde
  have hlack := fun h : wstep s.nodes w ≠ w => wstep_lack ⟨hwl, hwr, hwm⟩ h
  have hok := wok_step ⟨hwl, hwr, hwm⟩
  refine VC.frz [3232] [(1, .ref 0 1 0 0), (6, .c (.sl 1 ((wstep s.nodes w).map iPV))), (5, .c (.v (.bool d)))] [(0, ⟨false, 24, 2, [s.cells.map .c]⟩)] 12000 ?_ ?_
  · simp only [rA_sc, rA_len, scells_mk, WeakF, used_is, sc_any, sc_c, sc_pp, sc_ref, sc_row, sc_agg, sc_fn, ScL, some_imp, List.forall_mem_map, go_sem, Int.reduceBEq, Int.reduceLE, Int.reduceLT, Int.reduceNeg, Nat.reduceAdd, Nat.reduceEqDiff, Nat.reduceLT, Nat.reduceLeDiff, Nat.reduceMul, Nat.reduceSub, reduceCtorEq, ↓reduceIte]
    exact ⟨⟨.same _, .row (B := ⟨true, 3, 1, rA iPV (wstep s.nodes w)⟩) (es := (wstep s.nodes w).map iPV) (by simp) rfl rfl hln3 (rA_pv _ _), .same _⟩, .same _⟩
  refine walkG ?_
  refine .next ⟨(wstep s.nodes w, d), hok, fun h => ?_⟩ ?_ ?_
  · have e := hde.1 h
    simp only []
    rw [e]
    exact e
  · simp only [scells_mk, Weak, eq_self, used_is, sc_any, sc_c, sc_pp, sc_ref, sc_row, sc_agg, sc_fn, ScL, some_imp, List.forall_mem_map, go_sem, Int.reduceBEq, Int.reduceLE, Int.reduceLT, Int.reduceNeg, Nat.reduceAdd, Nat.reduceEqDiff, Nat.reduceLT, Nat.reduceLeDiff, Nat.reduceMul, Nat.reduceSub, reduceCtorEq, ↓reduceIte]
  · simp only []
    cases d with
    | false =>
      have e := hde.1 rfl
      rw [e]
      simp
    | true =>
      have := hlack fun e => by
        have := hde.2 e
        simp at this
      simp
      omega

theorem cellish_map (l : List PV) : ∀ x ∈ l.map AV.c, x.cellish = true := fun x hx => by
  obtain ⟨p, _, rfl⟩ := List.mem_map.1 hx
  rfl

theorem ssm_le' {s : ST} (h : s.sm 2500) : s.sm 1000000 := by
  obtain ⟨h1, h2⟩ := h
  refine ⟨by omega, fun n hn => ?_⟩
  obtain ⟨a1, a2, ⟨a3, a4⟩, ⟨a5, a6⟩, a7, a8, a9⟩ := h2 n hn
  refine ⟨by omega, by omega, ⟨by omega, fun y hy => by have := a4 y hy; omega⟩, ⟨by omega, fun y hy => by have := a6 y hy; omega⟩, by omega, by omega, fun f hf => ?_⟩
  obtain ⟨b1, b2, b3, b4⟩ := a9 f hf
  exact ⟨by omega, by omega, fun y hy => by have := b3 y hy; omega, sm_le (by omega) _ b4⟩
theorem range_kinds {s : ST} (h : orderedM s = true) : ∀ n ∈ s.nodes, n.kind = 9 → ∀ f ∈ n.fields, 0 ≤ f.type ∧ f.type < (s.nodes.length : Int) := fun n hn h9 f hf =>
  ordered_kids h n hn f.type (by rw [kidsN, if_pos h9]; exact List.mem_map.2 ⟨f, hf, rfl⟩)
theorem range_at {s : ST} (h : orderedM s = true) : ∀ p, ∀ x ∈ fieldsAt s.nodes p, x.type.toNat < s.nodes.length := fun p x hx => by
  unfold fieldsAt at hx
  split at hx
  · rename_i n hn
    split at hx
    · rename_i h9
      have := range_kinds h n (List.mem_of_getElem? hn) h9 x hx
      omega
    · simp at hx
  · simp at hx

theorem gList {ns : List NT} {G : Nat → Int} {l' : List Int} (hG : IsG ns G) (hr : ∀ p, ∀ x ∈ fieldsAt ns p, x.type.toNat < ns.length) (h : WOk ns l') (he : wstep ns l' = l') : l' = (List.range ns.length).map G := by
  apply List.ext_getElem?
  intro i
  by_cases hi : i < ns.length
  · rw [wok_G hG hr h he i hi, List.getElem?_map, List.getElem?_range hi]
    rfl
  · rw [List.getElem?_eq_none (by have := h.1; omega), List.getElem?_eq_none (by simp; omega)]
set_option maxRecDepth 100000 in
set_option maxHeartbeats 3200000 in
theorem rRight_told (s : ST) (hsm : s.sm 1000000) (hdp : ∀ n ∈ s.nodes, ∀ f ∈ n.fields, tdeep f.dflt ≤ 1000) : Told Tryz.prog 67 [s.av] (.c (.v (.bool (rightM s)))) := by
  obtain ⟨V, hV⟩ : ∃ V, V = rightM s := ⟨_, rfl⟩
  rw [← hV]
  obtain ⟨hl, hs⟩ := hsm
  have hO := rordered_told s hl hs
  simp only [ST.av_eq, scells_mk, List.map_cons, List.map_nil] at hO
  rw [ST.av_eq, scells_mk]
  cases ho : orderedM s with
  | false =>
    rw [ho] at hO
    have hf : V = false := by
      cases h : V with
      | false => rfl
      | true =>
        rw [hV] at h
        rw [right_ordered h] at ho
        exact absurd ho (by simp)
    subst hf
    refine VC.told ent_67 Tryz.func67 rfl Tryz.ntmps67 (by simp) (by first | rfl | simp [AV.pureB, AV.pureL, pureL_c, pures]) (by first | rfl | simp [AV.pureB, AV.pureL, pureL_c, pures]) fun hb => ?_
    clear hb
    refine walkG ?_
    refine walkC (hO) ?_
    refine walkB ?_
    refine ⟨by first | exact .inr rfl | exact .inl rfl, ?_⟩; rw [Tryz.results67]; simp only [resOk, resV, go_sem, simprocAttr]
    exact .c _
  | true =>
  rw [ho] at hO
  have hki := ordered_kids ho
  obtain ⟨G, hG⟩ := exG s.nodes (range_at ho)
  have hE := rightM_eq hG (range_at ho)
  have hWt := rweights_told s hl hs (fun p x hx => by
    unfold fieldsAt at hx
    split at hx
    · rename_i n hn
      split at hx
      · rename_i h9
        exact range_kinds ho n (List.mem_of_getElem? hn) h9 x hx
      · simp at hx
    · simp at hx) _ fun l' h he => gList hG (range_at ho) h he
  simp only [ST.av_eq, scells_mk, List.map_cons, List.map_nil] at hWt
  have hGl : (((List.range s.nodes.length).map G).map iPV).length = s.nodes.length := by simp
  have hGx : ∀ i, i < s.nodes.length → (((List.range s.nodes.length).map G).map iPV)[i]? = some (iPV (G i)) := fun i hi => by rw [List.getElem?_map, List.getElem?_map, List.getElem?_range hi]; rfl
  generalize ((List.range s.nodes.length).map G).map iPV = W at hWt hGl hGx
  have hnm : ∀ i, (namesM (s.nodes.take i)).length ≤ 1000000 := fun i => by
    have := names_len (s.nodes.take i)
    rw [List.length_take] at this
    omega
  refine VC.told ent_67 Tryz.func67 rfl Tryz.ntmps67 (by simp) (by first | rfl | simp [AV.pureB, AV.pureL, pureL_c, pures]) (by first | rfl | simp [AV.pureB, AV.pureL, pureL_c, pures]) fun hb => ?_
  clear hb
  refine walkG ?_
  refine walkC (hO) ?_
  refine walkB ?_
  refine walkC (hWt) ?_
  refine walkG ?_
  refine VC.nil 4 9 1 (by rfl) (by trivial) (by rfl) ?_
  refine VC.loop (ι := {i : Nat // i ≤ s.nodes.length ∧ ∀ (j : Nat) (n : NT), j < i → s.nodes[j]? = some n → nodeM s.nodes n = true ∧ G j ≤ 1000})
    (fun q => [(1, .ref 0 1 0 0), (3, .c (.sl 1 W)), (4, .row 80 (namesM (s.nodes.take q.1)).length), (5, .c (.v (.int .i64 (q.1 : Int))))])
    (fun q => [(0, ⟨false, 24, 2, [s.cells.map .c]⟩), (80, ⟨true, 9, 1, rA sPV (namesM (s.nodes.take q.1))⟩)]) 800 (fun q => s.nodes.length - q.1)
    ⟨0, Nat.zero_le _, fun j n h => by omega⟩ ?_ ?_
  · simp only [rA_len, rA_sc, rA_nil, scells_mk, Weak, eq_self, used_is, sc_any, sc_c, sc_pp, sc_ref, sc_row, sc_agg, sc_fn, ScL, some_imp, List.forall_mem_map, go_sem, Int.reduceBEq, Int.reduceLE, Int.reduceLT, Int.reduceNeg, Nat.reduceAdd, Nat.reduceEqDiff, Nat.reduceLT, Nat.reduceLeDiff, Nat.reduceMul, Nat.reduceSub, reduceCtorEq, ↓reduceIte]
    simp [namesM, rA_nil]
  rintro ⟨i, hi, ht⟩
  simp only []
  refine walkGF (@scells_mk) ?_
  refine VC.cond (by rfl) (by trivial) (fun hc => ?_) (fun hc => ?_)
  · have hlt : i < s.nodes.length := by simp at hc; omega
    obtain ⟨n, hn⟩ : ∃ n, s.nodes[i]? = some n := ⟨s.nodes[i], List.getElem?_eq_getElem hlt⟩
    have hnp : (s.nodes.map NT.cells)[i]? = some n.cells := by rw [List.getElem?_map, hn]; rfl
    have hw : IntKind.i64.wrap ((i : Int) + 1) = (i : Int) + 1 := wrap64_id (by omega) (by omega)
    have hmem := List.mem_of_getElem? hn
    have hNd := rnode_told s n (hs n hmem) (fun h13 k hk => hki n hmem k (by rw [kidsN, if_neg (by omega), if_neg (by omega), if_pos h13]; exact hk)) (hdp n hmem)
    have hNm := rnamed10_told n.kind
    simp only [ST.av_eq, scells_mk, NT.av_eq, ncells_mk, List.map_cons, List.map_nil] at hNd
    have hWx := hGx i hlt
    have hnl : (rA sPV (namesM (s.nodes.take i))).length = (namesM (s.nodes.take i)).length := rA_len _ _
    have hnt := namesM_take hn
    have hni := hnm i
    cases hnn : nodeM s.nodes n with
    | false =>
      have hf : V = false := by
        cases h : V with
        | false => rfl
        | true =>
          rw [hV, hE] at h
          rw [h.2.1 n hmem] at hnn
          exact absurd hnn (by simp)
      subst hf
      rw [hnn] at hNd
      refine walkGF (And.intro @scells_mk (And.intro hnp @ncells_mk)) ?_
      refine walkC (hNd) ?_
      refine walkB ?_
      refine ⟨by first | exact .inr rfl | exact .inl rfl, ?_⟩; rw [Tryz.results67]; simp only [resOk, resV, go_sem, simprocAttr]
      exact .c _
    | true =>
      rw [hnn] at hNd
      refine walkGF (And.intro @scells_mk (And.intro hnp @ncells_mk)) ?_
      refine walkC (hNd) ?_
      refine walkGF (And.intro hWx (And.intro @iPV_eq hGl)) ?_
      refine VC.cond (by rfl) (by trivial) (fun hc2 => ?_) (fun hc2 => ?_)
      · have hf : V = false := by
          cases h : V with
          | false => rfl
          | true =>
            rw [hV, hE] at h
            have := h.2.2.1 i hlt
            simp at hc2
            omega
        subst hf
        refine walkG ?_
        refine ⟨by first | exact .inr rfl | exact .inl rfl, ?_⟩; rw [Tryz.results67]; simp only [resOk, resV, go_sem, simprocAttr]
        exact .c _
      have hg1 : G i ≤ 1000 := by simp at hc2; omega
      refine walkGF (And.intro @scells_mk (And.intro hnp @ncells_mk)) ?_
      refine walkC (hNm) ?_
      refine walkG ?_
      have hnext : ∀ (j : Nat) (m : NT), j < i + 1 → s.nodes[j]? = some m → nodeM s.nodes m = true ∧ G j ≤ 1000 := fun j m hj hm => by
        by_cases hji : j < i
        · exact ht j m hji hm
        · obtain rfl : j = i := by omega
          rw [hn] at hm
          obtain rfl := Option.some.inj hm
          exact ⟨hnn, hg1⟩
      refine VC.cond (by rfl) (by trivial) (fun hc3 => ?_) (fun hc3 => ?_)
      · rw [if_pos hc3] at hnt
        have hr : rA sPV (namesM (s.nodes.take i)) ++ [[.c (.v (.string (str n.name)))]] = rA sPV (namesM (s.nodes.take (i + 1))) := by
          rw [hnt]
          exact rA_one sPV _ n.name
        have hl2 : (namesM (s.nodes.take (i + 1))).length = (namesM (s.nodes.take i)).length + 1 := by rw [hnt]; simp
        refine walkGF (And.intro @scells_mk (And.intro hnp (And.intro @ncells_mk (And.intro hnl (And.intro hr hw))))) ?_
        refine .next ⟨i + 1, by omega, hnext⟩ ?_ (by simp only []; omega)
        simp only [rA_len, rA_sc, scells_mk, hl2, Weak, eq_self, used_is, sc_any, sc_c, sc_pp, sc_ref, sc_row, sc_agg, sc_fn, ScL, some_imp, List.forall_mem_map, go_sem, Int.reduceBEq, Int.reduceLE, Int.reduceLT, Int.reduceNeg, Nat.reduceAdd, Nat.reduceEqDiff, Nat.reduceLT, Nat.reduceLeDiff, Nat.reduceMul, Nat.reduceSub, reduceCtorEq, ↓reduceIte]
        exact ⟨cI (by omega), Nat.le_refl _⟩
      · rw [if_neg (by rw [hc3]; simp), List.append_nil] at hnt
        refine walkGF (hw) ?_
        refine .next ⟨i + 1, by omega, hnext⟩ ?_ (by simp only []; omega)
        simp only [rA_len, rA_sc, scells_mk, hnt, Weak, eq_self, used_is, sc_any, sc_c, sc_pp, sc_ref, sc_row, sc_agg, sc_fn, ScL, some_imp, List.forall_mem_map, go_sem, Int.reduceBEq, Int.reduceLE, Int.reduceLT, Int.reduceNeg, Nat.reduceAdd, Nat.reduceEqDiff, Nat.reduceLT, Nat.reduceLeDiff, Nat.reduceMul, Nat.reduceSub, reduceCtorEq, ↓reduceIte]
        exact ⟨cI (by omega), Nat.le_refl _⟩
  · have hie : i = s.nodes.length := by simp at hc; omega
    have htk : s.nodes.take i = s.nodes := by rw [hie, List.take_length]
    rw [htk]
    have hnm0 := hnm i
    rw [htk] at hnm0
    have hf : V = decide (namesM s.nodes).Nodup := by
      rw [hV, Bool.eq_iff_iff, hE, decide_eq_true_eq]
      constructor
      · exact fun h => h.2.2.2
      · refine fun h => ⟨ho, fun m hm => ?_, fun j hj => ?_, h⟩
        · obtain ⟨j, hj⟩ := List.getElem?_of_mem hm
          exact (ht j m (by have := (List.getElem?_eq_some_iff.1 hj).1; omega) hj).1
        · exact (ht j _ (by omega) (List.getElem?_eq_getElem hj)).2
    have hO2 := ronce_told (namesM s.nodes) (by omega)
    rw [← hf] at hO2
    have hrl : (rA sPV (namesM s.nodes)).length = (namesM s.nodes).length := rA_len _ _
    refine walkGF (hrl) ?_
    (refine AO.step fun K hK => ?_; simp only [go_sem, Int.reduceBEq, Int.reduceLE, Int.reduceLT, Int.reduceNeg, Nat.reduceAdd, Nat.reduceEqDiff, Nat.reduceLT, Nat.reduceLeDiff, Nat.reduceMul, Nat.reduceSub, reduceCtorEq, ↓reduceIte, hrl]; (first | refine gsel_go ?_ | skip))
    refine .inr (.inl ⟨.c (.v (.bool V)), [.c (.sl 1 ((namesM s.nodes).map sPV))], [80], ⟨by simp [AV.pureL, AV.pureB], rfl, fun k x z h5 h6 => ?_, rfl, hO2⟩, hK _ _ _ ?_⟩)
    · match k with
      | 0 =>
        obtain rfl := Option.some.inj h5
        obtain rfl := Option.some.inj h6
        exact View.row (B := ⟨true, 9, 1, rA sPV (namesM s.nodes)⟩) (es := (namesM s.nodes).map sPV) rfl rfl hrl (rA_pv _ _)
      | k + 1 => simp at h5
    clear hK K
    refine walkG ?_
    refine ⟨by first | exact .inr rfl | exact .inl rfl, ?_⟩; rw [Tryz.results67]; simp only [resOk, resV, go_sem, simprocAttr]
    exact .c _

theorem say13_top (s : ST) (hok : SayOk s.nodes) (a : Int) (h0 : 0 ≤ a) (h1 : a < (s.nodes.length : Int)) (j : JT) (hj : JOk j) :
    ToldM Tryz.prog 66 [.ref 1000000 1 0 0, .c (.v (.int .i64 a)), j.av, .c (.v (.int .i64 0))] [xSB s.nodes s.root 0] [some (xSB s.nodes s.root (sayM s.nodes 20 a j 0).2.2)] (.tup [(sayM s.nodes 20 a j 0).1.av, .c (.v (.bool (sayM s.nodes 20 a j 0).2.1))]) := by
  have := say13_told s.nodes s.root hok 20 (Nat.le_refl _) a j 0 h0 h1 hj (Nat.zero_le _)
  exact this
set_option maxRecDepth 100000 in
set_option maxHeartbeats 3200000 in
theorem of13_told (s : ST) (hs : s.sm 1000000) (hok : rightM s = true → SayOk s.nodes) (a : Int) (j : JT) (hj1 : j.sm 1000000) (hj2 : j.inr) :
    Told Tryz.prog 25 [s.av, .c (.v (.int .i64 a)), j.av] (.tup [(ofM s a j).1.av, .c (.v (.int .i64 (ofM s a j).2))]) := by
  have hR := sRight_told s hs
  have hJ := jRight_told j (sm_le (by omega) _ hj1)
  have hS := fun (h1 : rightM s = true) (h2 : jR j = true) (h3 : 0 ≤ a) (h4 : a < (s.nodes.length : Int)) => say13_top s (hok h1) a h3 h4 j ⟨by rw [jR_shape, Bool.and_eq_true] at h2; exact h2.2, hj2, hj1⟩
  unfold ofM
  generalize rightM s = R at *
  generalize jR j = J at *
  rw [JT.av_eq] at hJ hS ⊢
  rw [ST.av_eq, scells_mk] at hR ⊢
  by_cases h0 : a < 0
  · have e0 : decide (a < 0) = true := by simpa using h0
    rw [if_neg (by omega), VT.av_eq]
    refine VC.told ent_25 Tryz.func25 rfl Tryz.ntmps25 (by simp) (by first | rfl | simp [AV.pureB, AV.pureL, pureL_c, pures]) (by first | rfl | simp [AV.pureB, AV.pureL, pureL_c, pures]) fun hb => ?_
    clear hb
    refine walkBF (And.intro e0 (And.intro @len_cells (And.intro @take_cells @take_cellsC))) ?_
    refine ⟨by first | exact .inr rfl | exact .inl rfl, ?_⟩; rw [Tryz.results25]; simp only [resOk, resV, go_sem, simprocAttr]
    exact ⟨frz_v _ _ _, .c _⟩
  have e0 : decide (a < 0) = false := by simpa using h0
  by_cases h1 : a < (s.nodes.length : Int)
  rotate_left
  · have e1 : decide (a ≥ (s.nodes.length : Int)) = true := by simp; omega
    rw [if_neg (by omega), VT.av_eq]
    refine VC.told ent_25 Tryz.func25 rfl Tryz.ntmps25 (by simp) (by first | rfl | simp [AV.pureB, AV.pureL, pureL_c, pures]) (by first | rfl | simp [AV.pureB, AV.pureL, pureL_c, pures]) fun hb => ?_
    clear hb
    refine walkBF (And.intro e0 (And.intro e1 (And.intro @len_cells (And.intro @take_cells @take_cellsC)))) ?_
    refine ⟨by first | exact .inr rfl | exact .inl rfl, ?_⟩; rw [Tryz.results25]; simp only [resOk, resV, go_sem, simprocAttr]
    exact ⟨frz_v _ _ _, .c _⟩
  have e1 : decide (a ≥ (s.nodes.length : Int)) = false := by simp; omega
  cases R with
  | false =>
    rw [if_neg (by simp), VT.av_eq]
    refine VC.told ent_25 Tryz.func25 rfl Tryz.ntmps25 (by simp) (by first | rfl | simp [AV.pureB, AV.pureL, pureL_c, pures]) (by first | rfl | simp [AV.pureB, AV.pureL, pureL_c, pures]) fun hb => ?_
    clear hb
    refine walkGF (And.intro e0 (And.intro e1 (And.intro @len_cells (And.intro @take_cells @take_cellsC)))) ?_
    refine walkC (hR) ?_
    refine walkBF (And.intro @len_cells (And.intro @take_cells @take_cellsC)) ?_
    refine ⟨by first | exact .inr rfl | exact .inl rfl, ?_⟩; rw [Tryz.results25]; simp only [resOk, resV, go_sem, simprocAttr]
    exact ⟨frz_v _ _ _, .c _⟩
  | true =>
  cases J with
  | false =>
    rw [if_neg (by simp), VT.av_eq]
    refine VC.told ent_25 Tryz.func25 rfl Tryz.ntmps25 (by simp) (by first | rfl | simp [AV.pureB, AV.pureL, pureL_c, pures]) (by first | rfl | simp [AV.pureB, AV.pureL, pureL_c, pures]) fun hb => ?_
    clear hb
    refine walkGF (And.intro e0 (And.intro e1 (And.intro @len_cells (And.intro @take_cells @take_cellsC)))) ?_
    refine walkC (hR) ?_
    refine walkGF (And.intro @len_cells (And.intro @take_cells @take_cellsC)) ?_
    refine walkCF (@pureL_c) (hJ) ?_
    refine walkBF (And.intro @len_cells (And.intro @take_cells @take_cellsC)) ?_
    refine ⟨by first | exact .inr rfl | exact .inl rfl, ?_⟩; rw [Tryz.results25]; simp only [resOk, resV, go_sem, simprocAttr]
    exact ⟨frz_v _ _ _, .c _⟩
  | true =>
  rw [if_pos ⟨by omega, h1, rfl, rfl⟩]
  have hS := hS rfl rfl (by omega) h1
  generalize (sayM s.nodes 20 a j 0).2.2 = c2 at *
  generalize (sayM s.nodes 20 a j 0).1 = v at *
  rw [VT.av_eq] at hS
  unfold xSB at hS
  cases hb' : (sayM s.nodes 20 a j 0).2.1 with
  | true =>
    rw [hb'] at hS
    rw [if_pos rfl, VT.av_eq]
    refine VC.told ent_25 Tryz.func25 rfl Tryz.ntmps25 (by simp) (by first | rfl | simp [AV.pureB, AV.pureL, pureL_c, pures]) (by first | rfl | simp [AV.pureB, AV.pureL, pureL_c, pures]) fun hb => ?_
    clear hb
    refine walkGF (And.intro e0 (And.intro e1 (And.intro @len_cells (And.intro @take_cells @take_cellsC)))) ?_
    refine walkC (hR) ?_
    refine walkGF (And.intro @len_cells (And.intro @take_cells @take_cellsC)) ?_
    refine walkCF (@pureL_c) (hJ) ?_
    refine walkBF (And.intro @len_cells (And.intro @take_cells @take_cellsC)) ?_
    ((refine AO.step fun K hK => ?_; simp only [go_sem, Int.reduceBEq, Int.reduceLE, Int.reduceLT, Int.reduceNeg, Nat.reduceAdd, Nat.reduceEqDiff, Nat.reduceLT, Nat.reduceLeDiff, Nat.reduceMul, Nat.reduceSub, reduceCtorEq, ↓reduceIte, len_cells, take_cells, take_cellsC]; (first | refine gsel_go ?_ | skip)); refine .inr (.inr (.inl ⟨?vy1, [200], ?va1, ?vl1, ?vm1, ?cond1, ?cont1⟩)); (case cond1 => ((repeat' apply And.intro) <;> (try ((with_reducible show ToldM _ _ _ _ _ _); exact hS))); (all_goals first | trivial | (simp only [len_cells, take_cells, take_cellsC, go_sem, simprocAttr]; done) | (simp; done) | rfl)); (first | refine hK _ _ _ ?_ | (simp only [len_cells, take_cells, take_cellsC, go_sem, simprocAttr]; first | refine hK _ _ _ ?_ | refine ⟨rfl, hK _ _ _ ?_⟩)); clear hK K)
    refine walkBF (And.intro @len_vcells (And.intro @take_vcells @take_vcellsC)) ?_
    refine ⟨by first | exact .inr rfl | exact .inl rfl, ?_⟩; rw [Tryz.results25]; simp only [resOk, resV, go_sem, simprocAttr]
    exact ⟨⟨by rw [len_vcells]; exact Nat.le_refl _, by rw [take_vcellsC]; exact Frz.cs _ _⟩, .c _⟩
  | false =>
    rw [hb'] at hS
    rw [if_neg (by decide), VT.av_eq]
    refine VC.told ent_25 Tryz.func25 rfl Tryz.ntmps25 (by simp) (by first | rfl | simp [AV.pureB, AV.pureL, pureL_c, pures]) (by first | rfl | simp [AV.pureB, AV.pureL, pureL_c, pures]) fun hb => ?_
    clear hb
    refine walkGF (And.intro e0 (And.intro e1 (And.intro @len_cells (And.intro @take_cells @take_cellsC)))) ?_
    refine walkC (hR) ?_
    refine walkGF (And.intro @len_cells (And.intro @take_cells @take_cellsC)) ?_
    refine walkCF (@pureL_c) (hJ) ?_
    refine walkBF (And.intro @len_cells (And.intro @take_cells @take_cellsC)) ?_
    ((refine AO.step fun K hK => ?_; simp only [go_sem, Int.reduceBEq, Int.reduceLE, Int.reduceLT, Int.reduceNeg, Nat.reduceAdd, Nat.reduceEqDiff, Nat.reduceLT, Nat.reduceLeDiff, Nat.reduceMul, Nat.reduceSub, reduceCtorEq, ↓reduceIte, len_cells, take_cells, take_cellsC]; (first | refine gsel_go ?_ | skip)); refine .inr (.inr (.inl ⟨?vy2, [200], ?va2, ?vl2, ?vm2, ?cond2, ?cont2⟩)); (case cond2 => ((repeat' apply And.intro) <;> (try ((with_reducible show ToldM _ _ _ _ _ _); exact hS))); (all_goals first | trivial | (simp only [len_cells, take_cells, take_cellsC, go_sem, simprocAttr]; done) | (simp; done) | rfl)); (first | refine hK _ _ _ ?_ | (simp only [len_cells, take_cells, take_cellsC, go_sem, simprocAttr]; first | refine hK _ _ _ ?_ | refine ⟨rfl, hK _ _ _ ?_⟩)); clear hK K)
    refine walkBF (And.intro @len_vcells (And.intro @take_vcells @take_vcellsC)) ?_
    refine ⟨by first | exact .inr rfl | exact .inl rfl, ?_⟩; rw [Tryz.results25]; simp only [resOk, resV, go_sem, simprocAttr]
    exact ⟨frz_v _ _ _, .c _⟩
noncomputable def fldM (s : ST) (fd : FT) : VT × Int := if fd.has = true then ofM s fd.type fd.dflt else (vz 0, 60)
set_option maxRecDepth 100000 in
set_option maxHeartbeats 1600000 in
theorem field13_told (s : ST) (hs : s.sm 1000000) (hr : rightM s = true) (hok : SayOk s.nodes) (i k : Nat) (n : NT) (hn : s.nodes[i]? = some n) (h9 : n.kind = 9) (fd : FT) (hfd : n.fields[k]? = some fd) :
    Told Tryz.prog 27 [s.av, .c (.v (.int .i64 (i : Int))), .c (.v (.int .i64 (k : Int)))] (.tup [(fldM s fd).1.av, .c (.v (.int .i64 (fldM s fd).2))]) := by
  have hR := sRight_told s hs
  rw [hr] at hR
  have hil := (List.getElem?_eq_some_iff.1 hn).1
  have hkl := (List.getElem?_eq_some_iff.1 hfd).1
  have hxp : (s.nodes.map NT.cells)[i]? = some n.cells := by rw [List.getElem?_map, hn]; rfl
  have hxq : (n.fields.map FT.cells)[k]? = some fd.cells := by rw [List.getElem?_map, hfd]; rfl
  have e0 : decide ((i : Int) < 0) = false := by simp
  have e1 : decide ((i : Int) ≥ (s.nodes.length : Int)) = false := by simp; omega
  have e2 : (n.kind != 9) = false := by simpa using h9
  have e3 : decide ((k : Int) < 0) = false := by simp
  have e4 : decide ((k : Int) ≥ (n.fields.length : Int)) = false := by simp; omega
  have hO := fun (h : fd.has = true) => of13_told s hs (fun _ => hok) fd.type fd.dflt ((hok.2 n (List.mem_of_getElem? hn)).2.2.2.1 h9 fd (List.mem_of_getElem? hfd) h).2.2 ((hok.2 n (List.mem_of_getElem? hn)).2.2.2.1 h9 fd (List.mem_of_getElem? hfd) h).2.1
  unfold fldM
  generalize ofM s fd.type fd.dflt = V at *
  rw [ST.av_eq, scells_mk] at hR ⊢
  cases hh : fd.has with
  | false =>
    rw [if_neg (by decide), VT.av_eq]
    refine VC.told ent_27 Tryz.func27 rfl Tryz.ntmps27 (by simp) (by first | rfl | simp [AV.pureB, AV.pureL, pureL_c, pures]) (by first | rfl | simp [AV.pureB, AV.pureL, pureL_c, pures]) fun hb => ?_
    clear hb
    refine walkGF (And.intro e0 (And.intro e1 (And.intro e2 (And.intro e3 (And.intro e4 (And.intro hxp @ncells_mk)))))) ?_
    refine walkC (hR) ?_
    refine walkBF (And.intro hxp (And.intro @ncells_mk (And.intro hxq (And.intro @fcells_mk (And.intro @len_fcells (And.intro @take_fcells (And.intro @take_fcellsC (And.intro @len_cells (And.intro @take_cells (And.intro @take_cellsC hh)))))))))) ?_
    refine ⟨by first | exact .inr rfl | exact .inl rfl, ?_⟩; rw [Tryz.results27]; simp only [resOk, resV, go_sem, simprocAttr]
    exact ⟨frz_v _ _ _, .c _⟩
  | true =>
    rw [if_pos rfl]
    have hO := hO hh
    rw [JT.av_eq, ST.av_eq, scells_mk, VT.av_eq] at hO
    rw [VT.av_eq]
    refine VC.told ent_27 Tryz.func27 rfl Tryz.ntmps27 (by simp) (by first | rfl | simp [AV.pureB, AV.pureL, pureL_c, pures]) (by first | rfl | simp [AV.pureB, AV.pureL, pureL_c, pures]) fun hb => ?_
    clear hb
    refine walkGF (And.intro e0 (And.intro e1 (And.intro e2 (And.intro e3 (And.intro e4 (And.intro hxp @ncells_mk)))))) ?_
    refine walkC (hR) ?_
    refine walkBF (And.intro hxp (And.intro @ncells_mk (And.intro hxq (And.intro @fcells_mk (And.intro @len_fcells (And.intro @take_fcells (And.intro @take_fcellsC (And.intro @len_cells (And.intro @take_cells (And.intro @take_cellsC hh)))))))))) ?_
    refine walkCF (@pureL_c) (hO) ?_
    refine walkBF (And.intro @len_vcells (And.intro @take_vcells @take_vcellsC)) ?_
    refine ⟨by first | exact .inr rfl | exact .inl rfl, ?_⟩; rw [Tryz.results27]; simp only [resOk, resV, go_sem, simprocAttr]
    exact ⟨⟨by rw [len_vcells]; exact Nat.le_refl _, by rw [take_vcellsC]; exact Frz.cs _ _⟩, .c _⟩
noncomputable def badF (s : ST) (fs : List FT) : Bool := fs.any fun fd => fd.has && (fldM s fd).2 != 0
noncomputable def badN (s : ST) (ns : List NT) : Bool := ns.any fun n => badF s n.fields
noncomputable def checkM (s : ST) : Int := if rightM s = true then (if badN s s.nodes = true then 35 else 0) else 2
theorem any_at {α : Type} (p : α → Bool) : ∀ {l : List α} {i : Nat} {x : α}, l[i]? = some x → p x = true → l.any p = true := fun h hp => List.any_eq_true.2 ⟨_, List.mem_of_getElem? h, hp⟩
theorem any_take {α : Type} (p : α → Bool) {l : List α} {i : Nat} {x : α} (h : l[i]? = some x) (h0 : (l.take i).any p = false) (hp : p x = false) : (l.take (i + 1)).any p = false := by
  rw [List.take_add_one, h, List.any_append, h0]
  simp [hp]
theorem bare_fields {n : NT} (h : bareM n = true) {k : Nat} {fd : FT} (hfd : n.fields[k]? = some fd) : n.kind = 9 := by
  unfold bareM at h
  simp only [Bool.and_eq_true, Bool.or_eq_true, beq_iff_eq, List.isEmpty_iff] at h
  rcases h.2.1 with h | h
  · exact h
  · rw [h] at hfd
    simp at hfd
theorem right_kind {s : ST} (hr : rightM s = true) {n : NT} (hn : n ∈ s.nodes) {k : Nat} {fd : FT} (hfd : n.fields[k]? = some fd) : n.kind = 9 := by
  have := right_nodes hr n hn
  unfold nodeM at this
  simp only [Bool.and_eq_true] at this
  exact bare_fields this.1.2.2 hfd
set_option maxRecDepth 100000 in
set_option maxHeartbeats 3200000 in
theorem check13_told (s : ST) (hs : s.sm 1000000) (hok : rightM s = true → SayOk s.nodes) : Told Tryz.prog 29 [s.av] (.c (.v (.int .i64 (checkM s)))) := by
  have hR := sRight_told s hs
  unfold checkM
  cases hr : rightM s with
  | false =>
    rw [hr] at hR
    rw [if_neg (by decide)]
    rw [ST.av_eq, scells_mk] at hR ⊢
    refine VC.told ent_29 Tryz.func29 rfl Tryz.ntmps29 (by simp) (by first | rfl | simp [AV.pureB, AV.pureL, pureL_c, pures]) (by first | rfl | simp [AV.pureB, AV.pureL, pureL_c, pures]) fun hb => ?_
    clear hb
    refine walkG ?_
    refine walkC (hR) ?_
    refine walkB ?_
    refine ⟨by first | exact .inr rfl | exact .inl rfl, ?_⟩; rw [Tryz.results29]; simp only [resOk, resV, go_sem, simprocAttr]
    exact .c _
  | true =>
  rw [hr] at hR
  have hok := hok hr
  rw [if_pos rfl]
  obtain ⟨V, hV⟩ : ∃ V : Int, V = if badN s s.nodes = true then 35 else 0 := ⟨_, rfl⟩
  rw [← hV]
  have hF := fun (i k : Nat) (n : NT) (hn : s.nodes[i]? = some n) (fd : FT) (hfd : n.fields[k]? = some fd) => field13_told s hs hr hok i k n hn (right_kind hr (List.mem_of_getElem? hn) hfd) fd hfd
  simp only [ST.av_eq, scells_mk] at hR hF ⊢
  have hsl := hs.1
  refine VC.told ent_29 Tryz.func29 rfl Tryz.ntmps29 (by simp) (by first | rfl | simp [AV.pureB, AV.pureL, pureL_c, pures]) (by first | rfl | simp [AV.pureB, AV.pureL, pureL_c, pures]) fun hb => ?_
  clear hb
  refine walkG ?_
  refine walkC (hR) ?_
  refine walkB ?_
  refine VC.loop (ι := {i : Nat // i ≤ s.nodes.length ∧ badN s (s.nodes.take i) = false}) (fun q => [(1, .ref 0 1 0 0), (13, .c (.sl 10 (s.nodes.map NT.cells))), (14, .c (.v (.int .i64 (s.nodes.length : Int)))), (15, .c (.v (.int .i64 (q.1 : Int))))])
    (fun _ => [(0, ⟨false, 24, 2, [[.c (.sl 10 (s.nodes.map NT.cells)), .c (.v (.int .i64 s.root))]]⟩)]) 800 (fun q => s.nodes.length - q.1) ⟨0, Nat.zero_le _, rfl⟩ ?_ ?_
  · simp only [Weak, eq_self, used_is, sc_any, sc_c, sc_pp, sc_ref, sc_row, sc_agg, sc_fn, ScL, some_imp, List.forall_mem_map, go_sem, Int.reduceBEq, Int.reduceLE, Int.reduceLT, Int.reduceNeg, Nat.reduceAdd, Nat.reduceEqDiff, Nat.reduceLT, Nat.reduceLeDiff, Nat.reduceMul, Nat.reduceSub, reduceCtorEq, ↓reduceIte]
    all_goals rfl
  rintro ⟨i, hi, hbi⟩
  simp only []
  refine walkG ?_
  refine VC.cond (by rfl) (by trivial) (fun h1 => ?_) (fun h1 => ?_)
  rotate_left
  · obtain rfl : i = s.nodes.length := by simp at h1; omega
    rw [List.take_length] at hbi
    have hV0 : V = 0 := by rw [hV, hbi]; rfl
    refine walkG ?_
    refine ⟨by first | exact .inr rfl | exact .inl rfl, ?_⟩; rw [Tryz.results29]; simp only [resOk, resV, go_sem, simprocAttr]
    rw [hV0]
    exact .c _
  have hlt : i < s.nodes.length := by simp at h1; omega
  obtain ⟨n, hn⟩ : ∃ n, s.nodes[i]? = some n := ⟨s.nodes[i], List.getElem?_eq_getElem hlt⟩
  have hxp : (s.nodes.map NT.cells)[i]? = some n.cells := by rw [List.getElem?_map, hn]; rfl
  have hw : IntKind.i64.wrap ((i : Int) + 1) = (i : Int) + 1 := wrap64_id (by omega) (by omega)
  have hfl := (hs.2 n (List.mem_of_getElem? hn)).2.2.2.2.2.1
  refine walkGF (And.intro hxp @ncells_mk) ?_
  refine VC.loop (ι := {k : Nat // k ≤ n.fields.length ∧ badF s (n.fields.take k) = false}) (fun q => [(1, .ref 0 1 0 0), (3, .c (.v (.int .i64 (i : Int)))), (13, .c (.sl 10 (s.nodes.map NT.cells))), (14, .c (.v (.int .i64 (s.nodes.length : Int)))), (15, .c (.v (.int .i64 (i : Int)))), (21, .c (.sl 9 (n.fields.map FT.cells))), (22, .c (.v (.int .i64 (n.fields.length : Int)))), (23, .c (.v (.int .i64 (q.1 : Int))))])
    (fun _ => [(0, ⟨false, 24, 2, [[.c (.sl 10 (s.nodes.map NT.cells)), .c (.v (.int .i64 s.root))]]⟩)]) 4000 (fun q => n.fields.length - q.1) ⟨0, Nat.zero_le _, rfl⟩ ?_ ?_
  · simp only [Weak, eq_self, used_is, sc_any, sc_c, sc_pp, sc_ref, sc_row, sc_agg, sc_fn, ScL, some_imp, List.forall_mem_map, go_sem, Int.reduceBEq, Int.reduceLE, Int.reduceLT, Int.reduceNeg, Nat.reduceAdd, Nat.reduceEqDiff, Nat.reduceLT, Nat.reduceLeDiff, Nat.reduceMul, Nat.reduceSub, reduceCtorEq, ↓reduceIte]
    all_goals rfl
  rintro ⟨k, hk, hbk⟩
  simp only []
  refine walkG ?_
  refine VC.cond (by rfl) (by trivial) (fun h2 => ?_) (fun h2 => ?_)
  rotate_left
  · obtain rfl : k = n.fields.length := by simp at h2; omega
    rw [List.take_length] at hbk
    refine walkGF (hw) ?_
    refine .next ⟨i + 1, by omega, any_take _ hn hbi hbk⟩ ?_ (by simp only []; omega)
    simp only [Weak, eq_self, used_is, sc_any, sc_c, sc_pp, sc_ref, sc_row, sc_agg, sc_fn, ScL, some_imp, List.forall_mem_map, go_sem, Int.reduceBEq, Int.reduceLE, Int.reduceLT, Int.reduceNeg, Nat.reduceAdd, Nat.reduceEqDiff, Nat.reduceLT, Nat.reduceLeDiff, Nat.reduceMul, Nat.reduceSub, reduceCtorEq, ↓reduceIte]
    exact cI (by omega)
  have hlt2 : k < n.fields.length := by simp at h2; omega
  obtain ⟨fd, hfd⟩ : ∃ fd, n.fields[k]? = some fd := ⟨n.fields[k], List.getElem?_eq_getElem hlt2⟩
  have hxq : (n.fields.map FT.cells)[k]? = some fd.cells := by rw [List.getElem?_map, hfd]; rfl
  have hw2 : IntKind.i64.wrap ((k : Int) + 1) = (k : Int) + 1 := wrap64_id (by omega) (by omega)
  have hFk := hF i k n hn fd hfd
  have hbad : (fd.has && (fldM s fd).2 != 0) = true → V = 35 := fun h => by
    have : badN s s.nodes = true := any_at _ hn (any_at _ hfd h)
    rw [hV, if_pos this]
  have hgood : (fd.has && (fldM s fd).2 != 0) = false → badF s (n.fields.take (k + 1)) = false := fun h => any_take _ hfd hbk h
  clear hF hV
  generalize fldM s fd = Y at *
  rw [VT.av_eq] at hFk
  obtain ⟨b1, e1⟩ : ∃ b : Bool, b = fd.has := ⟨_, rfl⟩
  obtain ⟨b2, e2⟩ : ∃ b : Bool, b = (Y.2 != 0) := ⟨_, rfl⟩
  rw [← e1, ← e2] at hbad hgood
  cases b1 with
  | false =>
    refine walkGF (And.intro hxq (And.intro @fcells_mk (And.intro @len_fcells (And.intro @take_fcells (And.intro @take_fcellsC (And.intro @len_cells (And.intro @take_cells @take_cellsC))))))) ?_
    refine walkCF (@pureL_c) (hFk) ?_
    refine walkBF (And.intro @fcells_mk (And.intro @len_cells (And.intro @take_cells (And.intro @take_cellsC (And.intro e1.symm (And.intro hw2 (And.intro @len_vcells (And.intro @take_vcells @take_vcellsC)))))))) ?_
    refine .next ⟨k + 1, by omega, hgood rfl⟩ ?_ (by simp only []; omega)
    simp only [Weak, eq_self, used_is, sc_any, sc_c, sc_pp, sc_ref, sc_row, sc_agg, sc_fn, ScL, some_imp, List.forall_mem_map, go_sem, Int.reduceBEq, Int.reduceLE, Int.reduceLT, Int.reduceNeg, Nat.reduceAdd, Nat.reduceEqDiff, Nat.reduceLT, Nat.reduceLeDiff, Nat.reduceMul, Nat.reduceSub, reduceCtorEq, ↓reduceIte]
    exact cI (by omega)
  | true =>
  cases b2 with
  | false =>
    refine walkGF (And.intro hxq (And.intro @fcells_mk (And.intro @len_fcells (And.intro @take_fcells (And.intro @take_fcellsC (And.intro @len_cells (And.intro @take_cells @take_cellsC))))))) ?_
    refine walkCF (@pureL_c) (hFk) ?_
    refine walkBF (And.intro @fcells_mk (And.intro @len_cells (And.intro @take_cells (And.intro @take_cellsC (And.intro e1.symm (And.intro e2.symm (And.intro hw2 (And.intro @len_vcells (And.intro @take_vcells @take_vcellsC))))))))) ?_
    refine .next ⟨k + 1, by omega, hgood rfl⟩ ?_ (by simp only []; omega)
    simp only [Weak, eq_self, used_is, sc_any, sc_c, sc_pp, sc_ref, sc_row, sc_agg, sc_fn, ScL, some_imp, List.forall_mem_map, go_sem, Int.reduceBEq, Int.reduceLE, Int.reduceLT, Int.reduceNeg, Nat.reduceAdd, Nat.reduceEqDiff, Nat.reduceLT, Nat.reduceLeDiff, Nat.reduceMul, Nat.reduceSub, reduceCtorEq, ↓reduceIte]
    exact cI (by omega)
  | true =>
    refine walkGF (And.intro hxq (And.intro @fcells_mk (And.intro @len_fcells (And.intro @take_fcells (And.intro @take_fcellsC (And.intro @len_cells (And.intro @take_cells @take_cellsC))))))) ?_
    refine walkCF (@pureL_c) (hFk) ?_
    refine walkBF (And.intro @fcells_mk (And.intro @len_cells (And.intro @take_cells (And.intro @take_cellsC (And.intro e1.symm (And.intro e2.symm (And.intro hw2 (And.intro @len_vcells (And.intro @take_vcells @take_vcellsC))))))))) ?_
    refine ⟨by first | exact .inr rfl | exact .inl rfl, ?_⟩; rw [Tryz.results29]; simp only [resOk, resV, go_sem, simprocAttr]
    rw [hbad rfl]
    exact .c _
section
open Go.RowKit Go.ChangeShapes Go.WideShapes Go.ChangeAt
inductive TyPV (P : Program) : TypeId → List PV → Prop
  | bool {t : TypeId} {b : Bool} (ht : P.underlying t = some .bool) : TyPV P t [.v (.bool b)]
  | int {t : TypeId} {k : IntKind} {n : Int} (ht : P.underlying t = some (.int k)) (hw : (Lit.int k n).wf = true) : TyPV P t [.v (.int k n)]
  | str {t : TypeId} {s : ByteArray} (ht : P.underlying t = some .string) (hs : s.size ≤ maxLen) : TyPV P t [.v (.string s)]
  | sl {t e : TypeId} {es : List (List PV)} (ht : P.underlying t = some (.slice e)) (hx : ∀ q ∈ es, TyPV P e q) : TyPV P t [.sl (P.cellsOf e) es]
  | struct {t : TypeId} {fs : Array Field} {ps : List PV} (ht : P.underlying t = some (.struct fs)) (hl : ps.length = P.cellsOf t)
      (hx : ∀ (i : Nat) (f : Field), fs[i]? = some f → TyPV P f.type ((ps.drop f.offset).take (P.cellsOf f.type))) : TyPV P t ps
def tiles (P : Program) : List Field → Nat → Nat → Bool
  | [], o, n => o == n
  | f :: fs, o, n => f.offset == o && tiles P fs (o + P.cellsOf f.type) n
def plainB (P : Program) (l : List TypeId) : Bool := l.all fun t => match P.underlying t with
  | some .bool => P.cellsOf t == 1 | some (.int _) => P.cellsOf t == 1 | some .string => P.cellsOf t == 1
  | some (.slice e) => l.contains e && decide (0 < P.cellsOf e) && (P.cellsOf t == 1)
  | some (.struct fs) => tiles P fs.toList 0 (P.cellsOf t) && fs.toList.all fun f => l.contains f.type
  | _ => false
theorem list_of {α : Type} {p : Nat → α → Prop} : ∀ (n : Nat), (∀ i, i < n → ∃ y, p i y) → ∃ l : List α, l.length = n ∧ ∀ (i : Nat) (y : α), l[i]? = some y → p i y
  | 0, _ => ⟨[], rfl, fun i y h => by simp at h⟩
  | n + 1, h => by
    obtain ⟨l, h1, h2⟩ := list_of n fun i hi => h i (by omega)
    obtain ⟨y, hy⟩ := h n (by omega)
    refine ⟨l ++ [y], by simp [h1], fun i z hz => ?_⟩
    by_cases hi : i < l.length
    · rw [List.getElem?_append_left hi] at hz
      exact h2 i z hz
    · rw [List.getElem?_append_right (by omega)] at hz
      cases hj : i - l.length with
      | zero =>
        rw [hj] at hz
        simp at hz
        subst hz
        rw [show i = n by omega]
        exact hy
      | succ j => rw [hj] at hz; simp at hz
section
variable {P : Program} {w : World}
theorem PRepL.cons_app {ro : Nat → Prop} {p q : List PV} {v u : List Value} (h : PRepL w ro p v) (h' : PRepL w ro q u) : PRepL w ro (p ++ q) (v ++ u) := by
  refine ⟨by simp [h.1, h'.1], fun j x y h1 h2 => ?_⟩
  by_cases hj : j < p.length
  · rw [List.getElem?_append_left hj] at h1
    rw [List.getElem?_append_left (by rw [h.1]; exact hj)] at h2
    exact h.2 j x y h1 h2
  · rw [List.getElem?_append_right (by omega)] at h1
    rw [List.getElem?_append_right (by rw [h.1]; omega), h.1] at h2
    exact h'.2 _ x y h1 h2
theorem tile_rep {ro : Nat → Prop} {cs : List Value} {n : Nat} (hn : cs.length = n) : ∀ (fs : List Field) (o : Nat), o ≤ n → tiles P fs o n = true →
    (∀ f ∈ fs, ∃ q, PRepL w ro q ((cs.drop f.offset).take (P.cellsOf f.type)) ∧ q.length = P.cellsOf f.type ∧ TyPV P f.type q) →
    ∃ ps, PRepL w ro ps (cs.drop o) ∧ ps.length = n - o ∧ ∀ (i : Nat) (f : Field), fs[i]? = some f → o ≤ f.offset ∧ TyPV P f.type ((ps.drop (f.offset - o)).take (P.cellsOf f.type)) := by
  intro fs
  induction fs with
  | nil =>
    intro o ho ht _
    simp [tiles] at ht
    subst ht
    exact ⟨[], ⟨by simp [← hn], by simp⟩, by simp, by simp⟩
  | cons f fs ih =>
    intro o ho ht hf
    simp only [tiles, Bool.and_eq_true, beq_iff_eq] at ht
    obtain ⟨h1, h2⟩ := ht
    obtain ⟨q, hq1, hq2, hq3⟩ := hf f (by simp)
    have hle : o + P.cellsOf f.type ≤ n := by
      have := hq1.1
      rw [hq2, List.length_take, List.length_drop, h1, hn] at this
      omega
    obtain ⟨ps, hp1, hp2, hp3⟩ := ih _ hle h2 fun g hg => hf g (by simp [hg])
    have hsp : cs.drop o = (cs.drop o).take (P.cellsOf f.type) ++ cs.drop (o + P.cellsOf f.type) := by
      rw [← List.drop_drop, List.take_append_drop]
    refine ⟨q ++ ps, ?_, by simp [hq2, hp2]; omega, fun i g hg => ?_⟩
    · rw [hsp]
      rw [h1] at hq1
      exact hq1.cons_app hp1
    · cases i with
      | zero =>
        simp at hg
        subst hg
        refine ⟨by omega, ?_⟩
        rw [h1, Nat.sub_self, List.drop_zero, ← hq2, List.take_left]
        exact hq3
      | succ i =>
        simp at hg
        obtain ⟨h3, h4⟩ := hp3 i g hg
        refine ⟨by omega, ?_⟩
        rw [show g.offset - o = q.length + (g.offset - (o + P.cellsOf f.type)) by omega, List.drop_append, List.drop_of_length_le (by omega), List.nil_append, Nat.add_sub_cancel_left]
        exact h4
variable {H : Type} {enc : TypeId × Value → H} {sp : Nat → Bool} {held : Bool}
theorem lit_prep {W : World} {ro : Nat → Prop} {v : Value} (hv : v.oneCell' = true) : PRepL W ro [.v v] [v] := ⟨rfl, fun j p u h1 h2 => by
  cases j with
  | zero => simp at h1 h2; subst h1 h2; exact .v hv
  | succ j => simp at h1⟩
theorem open_pv {l : List TypeId} (hl : plainB P l = true) : ∀ (fuel : Nat) (t : TypeId) (cs : List Value) (x : DataW H × List MemPlace), t ∈ l → DataW.trod enc P w 0 sp held fuel t cs = some x →
    ∃ ps, PRepL w (fun b => b < w.heap.size) ps cs ∧ ps.length = P.cellsOf t ∧ TyPV P t ps := by
  intro fuel
  induction fuel using Nat.strongRecOn with
  | ind fuel ih =>
  intro t cs x ht h
  have hk := List.all_eq_true.1 hl t ht
  split at hk
  · rename_i hu
    obtain ⟨b, rfl, _⟩ := DataW.trod_bool hu h
    exact ⟨_, lit_prep rfl, (by simpa using hk : P.cellsOf t = 1).symm, .bool hu⟩
  · rename_i k hu
    obtain ⟨n, rfl, _, hw⟩ := DataW.trod_int hu h
    exact ⟨_, lit_prep rfl, (by simpa using hk : P.cellsOf t = 1).symm, .int hu hw⟩
  · rename_i hu
    obtain ⟨s, rfl, _, hs⟩ := DataW.trod_string hu h
    exact ⟨_, lit_prep rfl, (by simpa using hk : P.cellsOf t = 1).symm, .str hu hs⟩
  · rename_i e hu
    simp only [Bool.and_eq_true, List.contains_iff_mem, decide_eq_true_eq, beq_iff_eq] at hk
    obtain ⟨⟨he, hz⟩, hone⟩ := hk
    rcases DataW.trod_slice hu h with ⟨rfl, _⟩ | ⟨a, len, cap, elems, rest, n, rfl, rfl, _, hb, h1, h2, h3, h4, _, _⟩
    · exact ⟨[.sl (P.cellsOf e) []], ⟨rfl, fun j p u g1 g2 => by
        cases j with
        | zero => simp at g1 g2; subst g1 g2; exact PRep.nil _ _ _
        | succ j => simp at g1⟩, hone.symm, .sl hu (by simp)⟩
    · have hex : ∀ i, i < len → ∃ y : List Value × List PV, w.cells? 0 (a.add (i * P.cellsOf e)) (P.cellsOf e) = some y.1 ∧ PRepL w (fun b => b < w.heap.size) y.2 y.1 ∧ y.2.length = P.cellsOf e ∧ TyPV P e y.2 := by
        intro i hi
        have h5 := h4 i hi
        rw [List.getElem?_eq_getElem (show i < elems.length by omega), Option.bind_eq_some_iff] at h5
        obtain ⟨vs, h6, h7⟩ := h5
        obtain ⟨q, h8, h9, h10⟩ := ih n (by omega) e vs _ he h7
        exact ⟨(vs, q), h6, h8, h9, h10⟩
      obtain ⟨L, hL, hLx⟩ := list_of len hex
      have hcell : ∀ (i : Nat) (y : List Value × List PV), L[i]? = some y → y.1.length = P.cellsOf e ∧ ∀ j, j < P.cellsOf e → w.cell? ((a.add (i * P.cellsOf e)).add j) = y.1[j]? := fun i y hy => (World.cells?_some (hLx i y hy).1).2
      have hlen : len = (L.map (·.2)).length := by simp [hL]
      refine ⟨[.sl (P.cellsOf e) (L.map (·.2))], ⟨rfl, fun j p u g1 g2 => ?_⟩, hone.symm, .sl hu fun q hq => ?_⟩
      · cases j with
        | succ j => simp at g1
        | zero =>
        simp at g1 g2
        subst g1 g2
        rw [hlen]
        refine .sl (vss := L.map (·.1)) (by omega) (by unfold maxLen at h2; omega) (fun hn => by simp at hn) (fun hne => ?_) (by simp) (fun i q hq => ?_) (fun i vs hvs => ?_) (fun i j q vs p u hq hvs hp hv => ?_)
        · have hpos : 0 < L.length := List.length_pos_iff.2 (by intro e; apply hne; simp [e])
          obtain ⟨y0, hy0⟩ : ∃ y, L[0]? = some y := ⟨L[0], List.getElem?_eq_getElem hpos⟩
          obtain ⟨c1, c2⟩ := hcell 0 y0 hy0
          have c3 := c2 0 hz
          rw [List.getElem?_eq_getElem (show 0 < y0.1.length by omega)] at c3
          simp only [Nat.zero_mul] at c3
          have hspot := World.cell?_spot c3
          have hlt : a.block < w.heap.size := by
            unfold World.cell? at c3
            have : (a.add 0).add 0 = a := by simp [Addr.add]
            rw [this] at c3
            split at c3
            · rename_i hh
              exact (Array.getElem?_eq_some_iff.1 hh).1
            · simp at c3
          have ha : a = ⟨a.block, a.off, none⟩ := by
            cases a
            simp [Addr.add] at hspot
            simp [hspot]
          refine ⟨a.block, a.off, by rw [← ha], hlt, fun i vs hvs j hj => ?_⟩
          rw [List.getElem?_map] at hvs
          cases hq : L[i]? with
          | none => rw [hq] at hvs; simp at hvs
          | some y =>
            rw [hq] at hvs
            obtain rfl := Option.some.inj hvs
            obtain ⟨d1, d2⟩ := hcell i y hq
            have hj' : j < y.1.length := hj
            rw [← d2 j (by omega), ha, addr_add, addr_add]
        · rw [List.getElem?_map] at hq
          cases hy : L[i]? with
          | none => rw [hy] at hq; simp at hq
          | some y =>
            rw [hy] at hq
            obtain rfl := Option.some.inj hq
            exact (hLx i y hy).2.2.1
        · rw [List.getElem?_map] at hvs
          cases hy : L[i]? with
          | none => rw [hy] at hvs; simp at hvs
          | some y =>
            rw [hy] at hvs
            obtain rfl := Option.some.inj hvs
            exact (hcell i y hy).1
        · rw [List.getElem?_map] at hq hvs
          cases hy : L[i]? with
          | none => rw [hy] at hq; simp at hq
          | some y =>
            rw [hy] at hq hvs
            obtain rfl := Option.some.inj hq
            obtain rfl := Option.some.inj hvs
            exact (hLx i y hy).2.1.2 j p u hp hv
      · obtain ⟨y, hy, rfl⟩ := List.mem_map.1 hq
        obtain ⟨i, hi⟩ := List.mem_iff_getElem?.1 hy
        exact (hLx i y hi).2.2.2
  · rename_i fs hu
    simp only [Bool.and_eq_true] at hk
    obtain ⟨htl, hin⟩ := hk
    obtain ⟨xs, n, rfl, _, h1, h2, h3⟩ := DataW.trod_struct hu h
    obtain ⟨ps, hp1, hp2, hp3⟩ := tile_rep (P := P) (w := w) (ro := fun b => b < w.heap.size) (cs := cs) h1 fs.toList 0 (Nat.zero_le _) htl fun f hf => by
      obtain ⟨i, hi⟩ := List.mem_iff_getElem?.1 hf
      have hi' : fs[i]? = some f := by simpa using hi
      have hlt := (Array.getElem?_eq_some_iff.1 hi').1
      have h4 := h3 i f hi'
      rw [List.getElem?_eq_getElem (show i < xs.length by omega)] at h4
      have hm : f.type ∈ l := by simpa using List.all_eq_true.1 hin f hf
      obtain ⟨q, h5, h6, h7⟩ := ih n (by omega) f.type _ _ hm h4
      exact ⟨q, h5, h6, h7⟩
    refine ⟨ps, by simpa using hp1, by rw [hp2]; simp, .struct hu (by rw [hp2]; simp) fun i f hf => ?_⟩
    simpa using (hp3 i f (by simpa using hf)).2
  · simp at hk
def TyAV (P : Program) (t : TypeId) (x : AV) : Prop := ∃ ps, TyPV P t ps ∧ (((∃ fs, P.underlying t = some (.struct fs)) ∧ x = .agg (ps.map .c)) ∨ ((∀ fs, P.underlying t ≠ some (.struct fs)) ∧ ∃ q, ps = [q] ∧ x = .c q))
theorem prepL_rep {W : World} {ro : Nat → Prop} {φ : Nat → Value} {h : Nat → Option Blkd} {ps : List PV} {cs : List Value} (hp : PRepL W ro ps cs) : Rep W ro φ h (.agg (ps.map .c)) (.agg cs.toArray) := by
  refine .agg (by simp [hp.1]) fun j x v h1 h2 => ?_
  rw [List.getElem?_map] at h1
  cases hq : ps[j]? with
  | none => rw [hq] at h1; simp at h1
  | some p =>
    rw [hq] at h1
    obtain rfl := Option.some.inj h1
    exact .c (hp.2 j p v hq h2)
theorem prepL_one {W : World} {ro : Nat → Prop} {φ : Nat → Value} {h : Nat → Option Blkd} {ps : List PV} {v : Value} (hp : PRepL W ro ps [v]) : ∃ q, ps = [q] ∧ Rep W ro φ h (.c q) v := by
  have := hp.1
  match ps, this with
  | [q], _ => exact ⟨q, rfl, .c (hp.2 0 q v rfl rfl)⟩
theorem open_arg {l : List TypeId} (hl : plainB P l = true) {t : TypeId} (ht : t ∈ l) {r : Reach} {base : Nat} {v : Value} {d : DataW H} {p : List MemPlace} (hval : Value.okWide P w r base t v) (h : DataW.Trod enc P w 0 sp held t v d p) :
    ∃ x, TyAV P t x ∧ Rep w (fun b => b < w.heap.size) φ0 h0 x v := by
  obtain ⟨fuel, hf⟩ := h
  obtain ⟨ps, h1, _, h3⟩ := open_pv hl fuel t _ _ ht hf
  have hk := List.all_eq_true.1 hl t ht
  have key : (∀ fs, P.underlying t ≠ some (.struct fs)) → v.cells.toList = [v] → ∃ x, TyAV P t x ∧ Rep w (fun b => b < w.heap.size) φ0 h0 x v := by
    intro hn hc
    rw [hc] at h1
    obtain ⟨q, rfl, hr⟩ := prepL_one (φ := φ0) (h := h0) h1
    exact ⟨_, ⟨_, h3, .inr ⟨hn, q, rfl, rfl⟩⟩, hr⟩
  split at hk
  · rename_i hu
    obtain ⟨b, rfl⟩ := okWide_bool hu hval
    exact key (by simp [hu]) rfl
  · rename_i k hu
    obtain ⟨n, rfl⟩ := okWide_int hu hval
    exact key (by simp [hu]) rfl
  · rename_i hu
    obtain ⟨s, rfl⟩ := okWide_string hu hval
    exact key (by simp [hu]) rfl
  · rename_i e hu
    obtain ⟨a, len, cap, rfl⟩ := okWide_slice hu hval
    exact key (by simp [hu]) rfl
  · rename_i fs hu
    obtain ⟨cs, rfl, _⟩ := okWide_struct hu hval
    exact ⟨_, ⟨_, h3, .inl ⟨⟨fs, hu⟩, rfl⟩⟩, by simpa [Value.cells] using prepL_rep h1⟩
  · simp at hk
theorem reps_nil {W : World} {ro : Nat → Prop} {φ : Nat → Value} {h : Nat → Option Blkd} : ∀ (j : Nat) (x : AV) (v : Value), ([] : List AV)[j]? = some x → ([] : List Value)[j]? = some v → Rep W ro φ h x v := fun j x v h1 => by simp at h1
theorem reps_cons {W : World} {ro : Nat → Prop} {φ : Nat → Value} {h : Nat → Option Blkd} {y : AV} {u : Value} {l : List AV} {vs : List Value} (hy : Rep W ro φ h y u) (hs : ∀ (j : Nat) (x : AV) (v : Value), l[j]? = some x → vs[j]? = some v → Rep W ro φ h x v) :
    ∀ (j : Nat) (x : AV) (v : Value), (y :: l)[j]? = some x → (u :: vs)[j]? = some v → Rep W ro φ h x v := fun j x v h1 h2 => by
  cases j with
  | zero => simp at h1 h2; subst h1 h2; exact hy
  | succ j => exact hs j x v (by simpa using h1) (by simpa using h2)
end
end
section

section
variable {P : Program}
theorem ty_int {t : TypeId} {k : IntKind} {ps : List PV} (h : TyPV P t ps) (hu : P.underlying t = some (.int k)) : ∃ n, ps = [.v (.int k n)] ∧ (Lit.int k n).wf = true := by
  cases h with
  | int ht hw => obtain rfl := TypeDesc.int.inj (Option.some.inj (ht.symm.trans hu)); exact ⟨_, rfl, hw⟩
  | bool ht => simp [ht] at hu
  | str ht hs => simp [ht] at hu
  | sl ht hx => simp [ht] at hu
  | struct ht hl hx => simp [ht] at hu
theorem ty_bool {t : TypeId} {ps : List PV} (h : TyPV P t ps) (hu : P.underlying t = some .bool) : ∃ b, ps = [.v (.bool b)] := by
  cases h with
  | bool ht => exact ⟨_, rfl⟩
  | int ht hw => simp [ht] at hu
  | str ht hs => simp [ht] at hu
  | sl ht hx => simp [ht] at hu
  | struct ht hl hx => simp [ht] at hu
theorem ty_str {t : TypeId} {ps : List PV} (h : TyPV P t ps) (hu : P.underlying t = some .string) : ∃ s : List UInt8, ps = [.v (.string (str s))] ∧ s.length ≤ maxLen := by
  cases h with
  | @str _ s ht hs => exact ⟨s.data.toList, by rw [str_of], by rw [← str_size, str_of]; exact hs⟩
  | bool ht => simp [ht] at hu
  | int ht hw => simp [ht] at hu
  | sl ht hx => simp [ht] at hu
  | struct ht hl hx => simp [ht] at hu
theorem ty_sl {t e : TypeId} {ps : List PV} (h : TyPV P t ps) (hu : P.underlying t = some (.slice e)) : ∃ es, ps = [.sl (P.cellsOf e) es] ∧ ∀ q ∈ es, TyPV P e q := by
  cases h with
  | sl ht hx => obtain rfl := TypeDesc.slice.inj (Option.some.inj (ht.symm.trans hu)); exact ⟨_, rfl, hx⟩
  | bool ht => simp [ht] at hu
  | int ht hw => simp [ht] at hu
  | str ht hs => simp [ht] at hu
  | struct ht hl hx => simp [ht] at hu
theorem list_map {α β : Type} {f : α → β} : ∀ {l : List β}, (∀ y ∈ l, ∃ x, y = f x) → ∃ m : List α, l = m.map f
  | [], _ => ⟨[], rfl⟩
  | y :: l, h => by
    obtain ⟨x, rfl⟩ := h y (by simp)
    obtain ⟨m, rfl⟩ := list_map (l := l) fun z hz => h z (by simp [hz])
    exact ⟨x :: m, rfl⟩
theorem list_mapP {α β : Type} {f : α → β} {p : α → Prop} : ∀ {l : List β}, (∀ y ∈ l, ∃ x, p x ∧ y = f x) → ∃ m : List α, (∀ x ∈ m, p x) ∧ l = m.map f
  | [], _ => ⟨[], by simp, rfl⟩
  | y :: l, h => by
    obtain ⟨x, hx, rfl⟩ := h y (by simp)
    obtain ⟨m, hm, rfl⟩ := list_mapP (l := l) fun z hz => h z (by simp [hz])
    exact ⟨x :: m, fun z hz => by rcases List.mem_cons.1 hz with rfl | hz; exact hx; exact hm z hz, rfl⟩
theorem wf64 {n : Int} (h : (Lit.int .i64 n).wf = true) : -9223372036854775808 ≤ n ∧ n ≤ 9223372036854775807 := by
  simp [Lit.wf, IntKind.min, IntKind.max, IntKind.signed, IntKind.bits] at h
  omega
theorem split5 {α : Type} {l : List α} (h : l.length = 5) : ∃ a b c d e, l = [a, b, c, d, e] := by
  match l, h with
  | [a, b, c, d, e], _ => exact ⟨a, b, c, d, e, rfl⟩
end
theorem fld_of {P : Program} {t : TypeId} {T : TyA} {fs : Array Field} (hT : tyA P t = some T) (hu : P.underlying t = some (.struct fs)) {i o : Nat} {t' : TypeId} (h : T.flds[i]? = some (o, t')) : ∃ f, fs[i]? = some f ∧ f.offset = o ∧ f.type = t' := by
  obtain ⟨d, ii, h1, _, rfl⟩ := tyA_some hT
  obtain rfl := Option.some.inj (hu.symm.trans h1)
  simp only [descFlds, List.getElem?_map] at h
  cases hq : fs.toList[i]? with
  | none => rw [hq] at h; simp at h
  | some f =>
    rw [hq] at h
    simp at h
    exact ⟨f, by simpa using hq, h.1, h.2⟩
theorem cells_of {P : Program} {t : TypeId} {T : TyA} (hT : tyA P t = some T) : P.cellsOf t = T.size := by
  obtain ⟨d, ii, _, h2, rfl⟩ := tyA_some hT
  simp [Program.cellsOf, h2]
theorem ty_strs {ps : List PV} (h : TyPV Tryz.prog 29 ps) : ∃ ks : List (List UInt8), ps = [.sl 1 (ks.map sPV)] := by
  obtain ⟨es, rfl, hx⟩ := ty_sl h Tryz.underlying29
  rw [cells_of tyA_9]
  obtain ⟨ks, rfl⟩ := list_map (f := sPV) fun q hq => by
    obtain ⟨s, rfl, _⟩ := ty_str (hx q hq) Tryz.underlying9
    exact ⟨s, rfl⟩
  exact ⟨ks, rfl⟩
theorem ty_fields {P : Program} {t : TypeId} {T : TyA} {ps : List PV} (h : TyPV P t ps) (hT : tyA P t = some T) (hk : T.kind = 3) :
    ps.length = T.size ∧ ∀ (i o : Nat) (t' : TypeId), T.flds[i]? = some (o, t') → ∀ T', tyA P t' = some T' → TyPV P t' ((ps.drop o).take T'.size) := by
  obtain ⟨d, ii, h1, h2, h3⟩ := tyA_some hT
  obtain ⟨fs, rfl⟩ := kind_struct (d := d) (by rw [h3] at hk; exact hk)
  cases h with
  | struct ht hlen hx =>
    obtain rfl := TypeDesc.struct.inj (Option.some.inj (ht.symm.trans h1))
    refine ⟨by rw [← cells_of hT]; exact hlen, fun i o t' h T' hT' => ?_⟩
    obtain ⟨f, hf, rfl, rfl⟩ := fld_of hT h1 h
    rw [← cells_of hT']
    exact hx i f hf
  | bool ht => simp [ht] at h1
  | int ht hw => simp [ht] at h1
  | str ht hs => simp [ht] at h1
  | sl ht hx => simp [ht] at h1
theorem ty_json : ∀ {t : TypeId} {ps : List PV}, TyPV Tryz.prog t ps → (t = 36 → ∃ j : JT, j.inr ∧ ps = j.cells) ∧ (t = 34 → ∃ xs : List JT, JT.inrL xs ∧ ps = [.sl 5 (xs.map JT.cells)]) := by
  intro t ps h
  induction h with
  | bool ht => exact ⟨fun e => by subst e; simp [Tryz.underlying36] at ht, fun e => by subst e; simp [Tryz.underlying34] at ht⟩
  | int ht hw => exact ⟨fun e => by subst e; simp [Tryz.underlying36] at ht, fun e => by subst e; simp [Tryz.underlying34] at ht⟩
  | str ht hs => exact ⟨fun e => by subst e; simp [Tryz.underlying36] at ht, fun e => by subst e; simp [Tryz.underlying34] at ht⟩
  | @sl t e es ht hx ih =>
    refine ⟨fun e => by subst e; simp [Tryz.underlying36] at ht, fun e => ?_⟩
    subst e
    obtain rfl := TypeDesc.slice.inj (Option.some.inj (ht.symm.trans Tryz.underlying34))
    obtain ⟨xs, hxs, rfl⟩ := list_mapP (f := JT.cells) (p := JT.inr) fun q hq => (ih q hq).1 rfl
    exact ⟨xs, inrL_of hxs, by rw [cells_of tyA_36]⟩
  | @struct t fs ps ht hl hx ih =>
    refine ⟨fun e => ?_, fun e => by subst e; simp [Tryz.underlying34] at ht⟩
    subst e
    have hT := tyA_36
    obtain ⟨a0, a1, a2, a3, a4, rfl⟩ := split5 (hl.trans (cells_of hT))
    obtain ⟨_, hf⟩ := ty_fields (.struct ht hl hx) hT rfl
    obtain ⟨k, h0, _⟩ := ty_int (hf 0 _ _ rfl _ tyA_3) Tryz.underlying3
    obtain ⟨n, h1, hw⟩ := ty_int (hf 1 _ _ rfl _ tyA_2) Tryz.underlying2
    obtain ⟨s, h2, _⟩ := ty_str (hf 2 _ _ rfl _ tyA_9) Tryz.underlying9
    obtain ⟨ks, h4⟩ := ty_strs (hf 4 _ _ rfl _ tyA_29)
    obtain ⟨f, g1, g2, g3⟩ := fld_of hT ht (i := 3) rfl
    obtain ⟨xs, hxs, h3⟩ := (ih 3 f g1).2 g3
    rw [g2, g3, cells_of tyA_34] at h3
    simp at h0 h1 h2 h3 h4
    subst h0 h1 h2 h3 h4
    exact ⟨.mk k n s ks xs, ⟨wf64 hw, hxs⟩, (cells_mk _ _ _ _ _).symm⟩
end

theorem drop_cut {α : Type} (l : List α) (o k : Nat) : l.drop o = (l.drop o).take k ++ l.drop (o + k) := by rw [← List.drop_drop, List.take_append_drop]
theorem ty_ints {ps : List PV} (h : TyPV Tryz.prog 31 ps) : ∃ ns : List Int, ps = [.sl 1 (ns.map iPV)] := by
  obtain ⟨es, rfl, hx⟩ := ty_sl h Tryz.underlying31
  rw [cells_of tyA_3]
  obtain ⟨ns, rfl⟩ := list_map (f := iPV) fun q hq => by
    obtain ⟨n, rfl, _⟩ := ty_int (hx q hq) Tryz.underlying3
    exact ⟨n, rfl⟩
  exact ⟨ns, rfl⟩
theorem ty_field {ps : List PV} (h : TyPV Tryz.prog 38 ps) : ∃ f : FT, ps = f.cells := by
  obtain ⟨hl, hf⟩ := ty_fields h tyA_38 rfl
  obtain ⟨a, h0, _⟩ := ty_str (hf 0 _ _ rfl _ tyA_9) Tryz.underlying9
  obtain ⟨b, h1⟩ := ty_strs (hf 1 _ _ rfl _ tyA_29)
  obtain ⟨c, h2, _⟩ := ty_int (hf 2 _ _ rfl _ tyA_3) Tryz.underlying3
  obtain ⟨d, h3⟩ := ty_bool (hf 3 _ _ rfl _ tyA_4) Tryz.underlying4
  obtain ⟨e, _, h4⟩ := (ty_json (hf 4 _ _ rfl _ tyA_36)).1 rfl
  have e0 : ps = (ps.drop 0).take 1 ++ ps.drop 1 := drop_cut ps 0 1
  have e1 : ps.drop 1 = (ps.drop 1).take 1 ++ ps.drop 2 := drop_cut ps 1 1
  have e2 : ps.drop 2 = (ps.drop 2).take 1 ++ ps.drop 3 := drop_cut ps 2 1
  have e3 : ps.drop 3 = (ps.drop 3).take 1 ++ ps.drop 4 := drop_cut ps 3 1
  have e4 : ps.drop 4 = (ps.drop 4).take 5 := (List.take_of_length_le (by rw [List.length_drop, hl]; decide)).symm
  exact ⟨⟨a, b, c, d, e⟩, e0.trans (by rw [h0, e1, h1, e2, h2, e3, h3, e4, h4]; rfl)⟩
theorem ty_fieldsL {ps : List PV} (h : TyPV Tryz.prog 30 ps) : ∃ fs : List FT, ps = [.sl 9 (fs.map FT.cells)] := by
  obtain ⟨es, rfl, hx⟩ := ty_sl h Tryz.underlying30
  rw [cells_of tyA_38]
  obtain ⟨ns, rfl⟩ := list_map (f := FT.cells) fun q hq => ty_field (hx q hq)
  exact ⟨ns, rfl⟩
theorem ty_node {ps : List PV} (h : TyPV Tryz.prog 33 ps) : ∃ n : NT, ps = n.cells := by
  obtain ⟨hl, hf⟩ := ty_fields h tyA_33 rfl
  obtain ⟨a0, h0, _⟩ := ty_int (hf 0 _ _ rfl _ tyA_3) Tryz.underlying3
  obtain ⟨a1, h1, _⟩ := ty_str (hf 1 _ _ rfl _ tyA_9) Tryz.underlying9
  obtain ⟨a2, h2⟩ := ty_strs (hf 2 _ _ rfl _ tyA_29)
  obtain ⟨a3, h3⟩ := ty_fieldsL (hf 3 _ _ rfl _ tyA_30)
  obtain ⟨a4, h4⟩ := ty_strs (hf 4 _ _ rfl _ tyA_29)
  obtain ⟨a5, h5⟩ := ty_bool (hf 5 _ _ rfl _ tyA_4) Tryz.underlying4
  obtain ⟨a6, h6, _⟩ := ty_str (hf 6 _ _ rfl _ tyA_9) Tryz.underlying9
  obtain ⟨a7, h7, _⟩ := ty_int (hf 7 _ _ rfl _ tyA_3) Tryz.underlying3
  obtain ⟨a8, h8, _⟩ := ty_int (hf 8 _ _ rfl _ tyA_3) Tryz.underlying3
  obtain ⟨a9, h9⟩ := ty_ints (hf 9 _ _ rfl _ tyA_31)
  have e0 : ps = (ps.drop 0).take 1 ++ ps.drop 1 := drop_cut ps 0 1
  have e1 : ps.drop 1 = (ps.drop 1).take 1 ++ ps.drop 2 := drop_cut ps 1 1
  have e2 : ps.drop 2 = (ps.drop 2).take 1 ++ ps.drop 3 := drop_cut ps 2 1
  have e3 : ps.drop 3 = (ps.drop 3).take 1 ++ ps.drop 4 := drop_cut ps 3 1
  have e4 : ps.drop 4 = (ps.drop 4).take 1 ++ ps.drop 5 := drop_cut ps 4 1
  have e5 : ps.drop 5 = (ps.drop 5).take 1 ++ ps.drop 6 := drop_cut ps 5 1
  have e6 : ps.drop 6 = (ps.drop 6).take 1 ++ ps.drop 7 := drop_cut ps 6 1
  have e7 : ps.drop 7 = (ps.drop 7).take 1 ++ ps.drop 8 := drop_cut ps 7 1
  have e8 : ps.drop 8 = (ps.drop 8).take 1 ++ ps.drop 9 := drop_cut ps 8 1
  have e9 : ps.drop 9 = (ps.drop 9).take 1 := (List.take_of_length_le (by rw [List.length_drop, hl]; decide)).symm
  exact ⟨⟨a0, a1, a2, a3, a4, a5, a6, a7, a8, a9⟩, e0.trans (by rw [h0, e1, h1, e2, h2, e3, h3, e4, h4, e5, h5, e6, h6, e7, h7, e8, h8, e9, h9]; rfl)⟩
theorem arg_schema {x : AV} (h : TyAV Tryz.prog 24 x) : ∃ s : ST, x = s.av := by
  obtain ⟨ps, h1, h2⟩ := h
  obtain ⟨hl, hf⟩ := ty_fields h1 tyA_24 rfl
  obtain ⟨es, h3, hx⟩ := ty_sl (hf 0 _ _ rfl _ tyA_22) Tryz.underlying22
  rw [cells_of tyA_33] at h3
  obtain ⟨ns, rfl⟩ := list_map (f := NT.cells) fun q hq => ty_node (hx q hq)
  obtain ⟨r, h4, _⟩ := ty_int (hf 1 _ _ rfl _ tyA_3) Tryz.underlying3
  have e0 : ps = (ps.drop 0).take 1 ++ ps.drop 1 := drop_cut ps 0 1
  have e1 : ps.drop 1 = (ps.drop 1).take 1 := (List.take_of_length_le (by rw [List.length_drop, hl]; decide)).symm
  have hp : ps = (ST.mk ns r).cells := e0.trans (by rw [h3, e1, h4]; rfl)
  subst hp
  rcases h2 with ⟨_, rfl⟩ | ⟨h2, _⟩
  · exact ⟨_, rfl⟩
  · exact absurd Tryz.underlying24 (h2 _)

def ST.inr (s : ST) : Prop := ∀ n ∈ s.nodes, ∀ f ∈ n.fields, f.dflt.inr
theorem right_say {s : ST} (hs : s.sm 1000000) (hi : s.inr) (hr : rightM s = true) : SayOk s.nodes := by
  refine ⟨hs.1, fun n hn => ?_⟩
  have hN := right_nodes hr n hn
  have hk := ordered_kids (right_ordered hr) n hn
  unfold nodeM at hN
  simp only [Bool.and_eq_true, decide_eq_true_eq] at hN
  obtain ⟨⟨k1, k2, _⟩, _, hK⟩ := hN
  refine ⟨hs.2 n hn, ⟨k1, k2⟩, hk, fun h9 f hf hh => ?_, fun h13 => ?_⟩
  · rw [if_pos h9] at hK
    unfold fieldsM at hK
    simp only [Bool.and_eq_true] at hK
    have := List.all_eq_true.1 hK.1 f hf
    unfold fieldM at this
    rw [hh, if_pos rfl, Bool.and_eq_true, jR_shape, Bool.and_eq_true] at this
    exact ⟨this.2.2, hi n hn f hf, ((hs.2 n hn).2.2.2.2.2.2 f hf).2.2.2⟩
  · rw [if_neg (by omega), if_neg (by omega), if_neg (by omega), if_pos h13] at hK
    unfold unionM at hK
    simp only [Bool.and_eq_true, decide_eq_true_eq] at hK
    exact ⟨n.branches[0]'(by omega), List.getElem?_eq_getElem _⟩
theorem leaf_inr (n : NT) {j : JT} (hj : rshape j = true) (hi : j.inr) : (leafS n j).1.inr := by
  obtain ⟨_, _, i1, i2⟩ := rshape_acc hj hi
  have hf := fltM_lt _ i1 i2
  have hd := dblM_lt _ i1 i2
  have hz : ∀ (k m : Int) (b : List UInt8), (VT.mk k m 0 b [] []).inr := fun k m b => ⟨by omega, trivial⟩
  unfold leafS numS textS
  repeat' split
  all_goals first
    | exact hz _ _ _
    | exact ⟨⟨by omega, by omega⟩, trivial⟩
mutual
theorem isM_sm (ns : List NT) : ∀ (v : VT) (a : Int), v.inr → isM ns a v = true → v.sm 1000000
  | .mk k n b s xs ks, a, hi, h => by
    simp only [VT.inr] at hi
    cases hn : ns[a.toNat]? with
    | none => rw [isM, hn] at h; simp at h
    | some nd =>
      rw [isM_eq hn, Bool.and_eq_true] at h
      have hx := eachM_sm ns xs (itemAt nd n) hi.2 h.2
      have hh := h.1
      unfold headM vbare at hh
      simp only [Bool.and_eq_true, Bool.or_eq_true, beq_iff_eq, decide_eq_true_eq, List.isEmpty_iff] at hh
      obtain ⟨⟨hk, ⟨_, _, _, h4, h5⟩, hs⟩, hc⟩ := hh
      refine ⟨hi.1, by omega, ?_, ?_, ?_, hx⟩
      · by_cases e : k = 12
        · subst e
          simp only [Int.reduceEq, if_false, if_true, Bool.and_eq_true, beq_iff_eq, decide_eq_true_eq] at hc
          omega
        · have := h5.resolve_left e
          rw [this]; simp
      · by_cases e : k = 12
        · subst e
          simp only [Int.reduceEq, if_false, if_true, Bool.and_eq_true, beq_iff_eq, decide_eq_true_eq] at hc
          intro y hy
          have := List.all_eq_true.1 hc.1.2 y hy
          unfold keyM at this
          simp only [Bool.and_eq_true, decide_eq_true_eq] at this
          omega
        · have := h5.resolve_left e
          rw [this]; simp
      · rcases h4 with (((e | e) | e) | e) | e
        · subst e
          simp only [Int.reduceEq, if_false, if_true, Bool.and_eq_true, beq_iff_eq, decide_eq_true_eq] at hc
          omega
        · subst e
          simp only [Int.reduceEq, if_false, if_true, Bool.and_eq_true, beq_iff_eq, decide_eq_true_eq] at hc
          omega
        · subst e
          simp only [Int.reduceEq, if_false, if_true, Bool.and_eq_true, beq_iff_eq, decide_eq_true_eq] at hc
          omega
        · subst e
          simp only [Int.reduceEq, if_false, if_true, Bool.and_eq_true, beq_iff_eq, decide_eq_true_eq] at hc
          omega
        · omega
theorem eachM_sm (ns : List NT) : ∀ (xs : List VT) (f : Nat → Int), VT.inrL xs → eachM ns f xs = true → VT.smL 1000000 xs
  | [], f, _, _ => trivial
  | x :: xs, f, hi, h => by
    rw [eachM, Bool.and_eq_true] at h
    exact ⟨isM_sm ns x _ hi.1 h.1, eachM_sm ns xs _ hi.2 h.2⟩
end
theorem say_inr {ns : List NT} (hD : DfOk ns) : ∀ (d : Nat) (a : Int) (j : JT) (c : Nat), rshape j = true → j.inr → (sayM ns d a j c).1.inr := by
  have hz : ∀ k : Int, (vz k).inr := fun k => ⟨by omega, trivial⟩
  have key : ∀ (f : Say), (∀ a j c, rshape j = true → j.inr → (f a j c).1.inr) → ∀ (n : NT), n ∈ ns → ∀ (j : JT) (c : Nat), rshape j = true → j.inr → (compS f n j c).1.inr := by
    intro f hf n hn j c hj hi
    have hits : ∀ x ∈ j.its, rshape x = true ∧ x.inr := by
      cases j with
      | mk k m s ks xs => exact fun x hx => ⟨(rshape_parts hj).2.2.2.2 x hx, jinr_mem hi x hx⟩
    have hitsF : ∀ (a : Int) (js : List JT), (∀ x ∈ js, rshape x = true ∧ x.inr) → ∀ (c : Nat) (vs : List VT), (itsF f a js c).1 = some vs → VT.inrL vs := by
      intro a js
      induction js with
      | nil =>
        intro _ c vs h
        rw [itsF] at h
        obtain rfl := Option.some.inj h
        trivial
      | cons x xs ih =>
        intro hx c vs h
        rw [itsF] at h
        split at h
        · cases hr : (itsF f a xs (f a x c).2.2).1 with
          | none => rw [hr] at h; simp at h
          | some us =>
            rw [hr] at h
            simp only [Option.map_some, Option.some.injEq] at h
            subst h
            exact ⟨hf _ _ _ (hx x (by simp)).1 (hx x (by simp)).2, ih (fun y hy => hx y (by simp [hy])) _ us hr⟩
        · simp at h
    have hitm : ∀ (a : Int) (c : Nat), VT.inrL ((itemsF f a j c).1.getD []) := by
      intro a c
      unfold itemsF
      split
      · trivial
      · cases hr : (itsF f a j.its c).1 with
        | none => trivial
        | some vs => exact hitsF a j.its hits c vs hr
    unfold compS
    by_cases h9 : n.kind = 9
    · rw [if_pos h9]
      have hrec : ∀ (fs : List FT), (∀ x ∈ fs, x ∈ n.fields) → ∀ (c : Nat) (vs : List VT), (recF f j fs c).1 = some vs → VT.inrL vs := by
        intro fs
        induction fs with
        | nil =>
          intro _ c vs h
          rw [recF] at h
          obtain rfl := Option.some.inj h
          trivial
        | cons x xs ih =>
          intro hx c vs h
          rw [recF] at h
          cases hF : fieldJ j x with
          | none => rw [hF] at h; simp at h
          | some i =>
            rw [hF] at h
            simp only [] at h
            split at h
            · cases hr : (recF f j xs (f x.type i c).2.2).1 with
              | none => rw [hr] at h; simp at h
              | some us =>
                rw [hr] at h
                simp only [Option.map_some, Option.some.injEq] at h
                subst h
                obtain ⟨q1, q2⟩ := fieldJ_ok hD hn h9 (hx x (by simp)) hj hi hF
                exact ⟨hf _ _ _ q1 q2, ih (fun y hy => hx y (by simp [hy])) _ us hr⟩
            · simp at h
      refine ⟨by omega, ?_⟩
      cases hr : (recF f j n.fields c).1 with
      | none => trivial
      | some vs => exact hrec n.fields (fun x hx => hx) c vs hr
    rw [if_neg h9]
    by_cases h11 : n.kind = 11
    · rw [if_pos h11]
      exact ⟨by omega, hitm _ _⟩
    rw [if_neg h11]
    by_cases h12 : n.kind = 12
    · rw [if_pos h12]
      exact ⟨by omega, hitm _ _⟩
    rw [if_neg h12]
    cases hb : n.branches[0]? with
    | none => exact hz _
    | some b => exact ⟨by omega, hf _ _ _ hj hi, trivial⟩
  intro d
  induction d with
  | zero =>
    intro a j c hj hi
    rw [sayM]
    simp only []
    split
    · exact hz _
    · split
      · exact hz _
      · exact leaf_inr _ hj hi
  | succ d ih =>
    intro a j c hj hi
    rw [sayM]
    simp only []
    split
    · exact hz _
    · rename_i n hn
      split
      · exact hz _
      · split
        · exact key _ ih n (List.mem_of_getElem? hn) j _ hj hi
        · exact leaf_inr _ hj hi
theorem say_df {ns : List NT} (h : SayOk ns) : DfOk ns := fun n hn h9 f hf hh => ⟨((h.2 n hn).2.2.2.1 h9 f hf hh).1, ((h.2 n hn).2.2.2.1 h9 f hf hh).2.1⟩
theorem of_good {s : ST} (hok : rightM s = true → SayOk s.nodes) (a : Int) {j : JT} (hi : j.inr) :
    ((ofM s a j).2 = 0 → conM s a (ofM s a j).1 (rightM s) = true ∧ vdeep (ofM s a j).1 ≤ 20) ∧ ((ofM s a j).2 ≠ 0 → (ofM s a j).1 = vz 0) ∧ (ofM s a j).1.sm 1000000 := by
  have hz : (vz 0).sm 1000000 := ⟨by omega, by simp, by simp, by simp, by simp, trivial⟩
  unfold ofM
  by_cases h : 0 ≤ a ∧ a < (s.nodes.length : Int) ∧ rightM s = true ∧ jR j = true
  rotate_left
  · rw [if_neg h]
    exact ⟨fun e => by simp at e, fun _ => rfl, hz⟩
  rw [if_pos h]
  obtain ⟨h0, h1, hr, hj⟩ := h
  have hsh : rshape j = true := by
    rw [jR_shape, Bool.and_eq_true] at hj
    exact hj.2
  by_cases hs : (sayM s.nodes 20 a j 0).2.1 = true
  rotate_left
  · rw [if_neg hs]
    exact ⟨fun e => by simp at e, fun _ => rfl, hz⟩
  rw [if_pos hs]
  have hD := say_df (hok hr)
  obtain ⟨g1, g2⟩ := say_is hD (right_nodes hr) 20 a j 0 hsh hi hs
  have g3 := say_inr hD 20 a j 0 hsh hi
  refine ⟨fun _ => ⟨?_, g2⟩, fun e => absurd rfl e, isM_sm s.nodes _ a g3 g1⟩
  unfold conM
  rw [hr, decide_eq_true h0, decide_eq_true h1, g1]
  rfl

theorem right_sym {s : ST} (hr : rightM s = true) : SymOk s.nodes := by
  intro n hn h10
  have hN := right_nodes hr n hn
  unfold nodeM at hN
  simp only [Bool.and_eq_true, decide_eq_true_eq] at hN
  have hK := hN.2.2
  rw [if_neg (by omega), if_pos h10] at hK
  simp only [Bool.and_eq_true, decide_eq_true_eq, diffM] at hK
  exact hK.2.2.2.2
theorem rsay13_top (s : ST) (hok : SayOk s.nodes) (hsy : SymOk s.nodes) (a : Int) (h0 : 0 ≤ a) (h1 : a < (s.nodes.length : Int)) (j : JT) (hj : JOk j) :
    ∃ v : VT, Told Tryz.prog 69 [s.av, .c (.v (.int .i64 a)), j.av, .c (.v (.int .i64 0)), .c (.v (.int .i64 1000))] (.tup [v.av, .c (.v (.int .i64 (lft (sayM s.nodes 20 a j 0).2.1 (1000 - ((sayM s.nodes 20 a j 0).2.2 : Int)))))]) ∧ ((sayM s.nodes 20 a j 0).2.1 = true → v = (sayM s.nodes 20 a j 0).1) := by
  obtain ⟨rv, hT⟩ := rsay13_told s hok hsy 20 (Nat.le_refl _)
  have := hT a j 0 h0 h1 hj (Nat.zero_le _)
  exact ⟨_, this⟩
set_option maxRecDepth 100000 in
set_option maxHeartbeats 3200000 in
theorem rof13_told (s : ST) (hs : s.sm 1000000) (hdp : ∀ n ∈ s.nodes, ∀ f ∈ n.fields, tdeep f.dflt ≤ 1000) (hok : rightM s = true → SayOk s.nodes) (a : Int) (j : JT) (hj1 : j.sm 1000000) (hj2 : j.inr) (hj3 : tdeep j ≤ 1000) :
    Told Tryz.prog 26 [s.av, .c (.v (.int .i64 a)), j.av] (.tup [(ofM s a j).1.av, .c (.v (.int .i64 (ofM s a j).2))]) := by
  have hR := rRight_told s hs hdp
  have hJ := rright_told j hj1 hj3
  have hS := fun (h1 : rightM s = true) (h2 : jR j = true) (h3 : 0 ≤ a) (h4 : a < (s.nodes.length : Int)) => rsay13_top s (hok h1) (right_sym h1) a h3 h4 j ⟨by rw [jR_shape, Bool.and_eq_true] at h2; exact h2.2, hj2, hj1⟩
  have hcn := sayM_cnt s.nodes 20 a j 0
  unfold ofM
  generalize rightM s = R at *
  generalize jR j = J at *
  rw [JT.av_eq] at hJ hS ⊢
  rw [ST.av_eq, scells_mk] at hR ⊢
  cases R with
  | false =>
    rw [if_neg (by simp), VT.av_eq]
    obtain ⟨b1, hb1⟩ : ∃ b : Bool, b = decide (a < 0) := ⟨_, rfl⟩
    refine VC.told ent_26 Tryz.func26 rfl Tryz.ntmps26 (by simp) (by first | rfl | simp [AV.pureB, AV.pureL, pureL_c, pures]) (by first | rfl | simp [AV.pureB, AV.pureL, pureL_c, pures]) fun hb => ?_
    clear hb
    refine walkGF (And.intro @len_cells (And.intro @take_cells @take_cellsC)) ?_
    refine walkC (hR) ?_
    refine walkBF (And.intro @len_cells (And.intro @take_cells @take_cellsC)) ?_
    refine ⟨by first | exact .inr rfl | exact .inl rfl, ?_⟩; rw [Tryz.results26]; simp only [resOk, resV, go_sem, simprocAttr]
    exact ⟨frz_v _ _ _, .c _⟩
  | true =>
  by_cases h0 : a < 0
  · have e0 : decide (a < 0) = true := by simpa using h0
    rw [if_neg (by omega), VT.av_eq]
    refine VC.told ent_26 Tryz.func26 rfl Tryz.ntmps26 (by simp) (by first | rfl | simp [AV.pureB, AV.pureL, pureL_c, pures]) (by first | rfl | simp [AV.pureB, AV.pureL, pureL_c, pures]) fun hb => ?_
    clear hb
    refine walkGF (And.intro @len_cells (And.intro @take_cells @take_cellsC)) ?_
    refine walkC (hR) ?_
    refine walkBF (And.intro e0 (And.intro @len_cells (And.intro @take_cells @take_cellsC))) ?_
    refine ⟨by first | exact .inr rfl | exact .inl rfl, ?_⟩; rw [Tryz.results26]; simp only [resOk, resV, go_sem, simprocAttr]
    exact ⟨frz_v _ _ _, .c _⟩
  have e0 : decide (a < 0) = false := by simpa using h0
  by_cases h1 : a < (s.nodes.length : Int)
  rotate_left
  · have e1 : decide (a ≥ (s.nodes.length : Int)) = true := by simp; omega
    rw [if_neg (by omega), VT.av_eq]
    refine VC.told ent_26 Tryz.func26 rfl Tryz.ntmps26 (by simp) (by first | rfl | simp [AV.pureB, AV.pureL, pureL_c, pures]) (by first | rfl | simp [AV.pureB, AV.pureL, pureL_c, pures]) fun hb => ?_
    clear hb
    refine walkGF (And.intro @len_cells (And.intro @take_cells @take_cellsC)) ?_
    refine walkC (hR) ?_
    refine walkBF (And.intro e0 (And.intro e1 (And.intro @len_cells (And.intro @take_cells @take_cellsC)))) ?_
    refine ⟨by first | exact .inr rfl | exact .inl rfl, ?_⟩; rw [Tryz.results26]; simp only [resOk, resV, go_sem, simprocAttr]
    exact ⟨frz_v _ _ _, .c _⟩
  have e1 : decide (a ≥ (s.nodes.length : Int)) = false := by simp; omega
  cases J with
  | false =>
    rw [if_neg (by simp), VT.av_eq]
    refine VC.told ent_26 Tryz.func26 rfl Tryz.ntmps26 (by simp) (by first | rfl | simp [AV.pureB, AV.pureL, pureL_c, pures]) (by first | rfl | simp [AV.pureB, AV.pureL, pureL_c, pures]) fun hb => ?_
    clear hb
    refine walkGF (And.intro @len_cells (And.intro @take_cells @take_cellsC)) ?_
    refine walkC (hR) ?_
    refine walkBF (And.intro e0 (And.intro e1 (And.intro @len_cells (And.intro @take_cells @take_cellsC)))) ?_
    refine walkCF (@pureL_c) (hJ) ?_
    refine walkBF (And.intro @len_cells (And.intro @take_cells @take_cellsC)) ?_
    refine ⟨by first | exact .inr rfl | exact .inl rfl, ?_⟩; rw [Tryz.results26]; simp only [resOk, resV, go_sem, simprocAttr]
    exact ⟨frz_v _ _ _, .c _⟩
  | true =>
  rw [if_pos ⟨by omega, h1, rfl, rfl⟩]
  obtain ⟨v, hS, hv⟩ := hS rfl rfl (by omega) h1
  rw [VT.av_eq] at hS
  cases hb' : (sayM s.nodes 20 a j 0).2.1 with
  | true =>
    have hc := hcn hb'
    rw [hb'] at hS
    rw [if_pos rfl, ← hv hb', VT.av_eq]
    generalize (sayM s.nodes 20 a j 0).2.2 = c2 at *
    have e5 : decide (lft true (1000 - (c2 : Int)) < 0) = false := by
      rw [lft, if_pos rfl]
      simp; omega
    generalize lft true (1000 - (c2 : Int)) = L at *
    refine VC.told ent_26 Tryz.func26 rfl Tryz.ntmps26 (by simp) (by first | rfl | simp [AV.pureB, AV.pureL, pureL_c, pures]) (by first | rfl | simp [AV.pureB, AV.pureL, pureL_c, pures]) fun hb => ?_
    clear hb
    refine walkGF (And.intro @len_cells (And.intro @take_cells @take_cellsC)) ?_
    refine walkC (hR) ?_
    refine walkBF (And.intro e0 (And.intro e1 (And.intro @len_cells (And.intro @take_cells @take_cellsC)))) ?_
    refine walkCF (@pureL_c) (hJ) ?_
    refine walkBF (And.intro @len_cells (And.intro @take_cells @take_cellsC)) ?_
    refine walkCF (And.intro @pureL_c (And.intro @len_cells (And.intro @take_cells @take_cellsC))) (hS) ?_
    refine walkBF (And.intro @len_vcells (And.intro @take_vcells (And.intro @take_vcellsC e5))) ?_
    refine ⟨by first | exact .inr rfl | exact .inl rfl, ?_⟩; rw [Tryz.results26]; simp only [resOk, resV, go_sem, simprocAttr]
    exact ⟨⟨by rw [len_vcells]; exact Nat.le_refl _, by rw [take_vcellsC]; exact Frz.cs _ _⟩, .c _⟩
  | false =>
    rw [hb'] at hS
    rw [if_neg (by decide), VT.av_eq]
    have e5 : decide (lft false (1000 - ((sayM s.nodes 20 a j 0).2.2 : Int)) < 0) = true := by
      rw [lft, if_neg (by decide)]
      decide
    generalize lft false (1000 - ((sayM s.nodes 20 a j 0).2.2 : Int)) = L at *
    refine VC.told ent_26 Tryz.func26 rfl Tryz.ntmps26 (by simp) (by first | rfl | simp [AV.pureB, AV.pureL, pureL_c, pures]) (by first | rfl | simp [AV.pureB, AV.pureL, pureL_c, pures]) fun hb => ?_
    clear hb
    refine walkGF (And.intro @len_cells (And.intro @take_cells @take_cellsC)) ?_
    refine walkC (hR) ?_
    refine walkBF (And.intro e0 (And.intro e1 (And.intro @len_cells (And.intro @take_cells @take_cellsC)))) ?_
    refine walkCF (@pureL_c) (hJ) ?_
    refine walkBF (And.intro @len_cells (And.intro @take_cells @take_cellsC)) ?_
    refine walkCF (And.intro @pureL_c (And.intro @len_cells (And.intro @take_cells @take_cellsC))) (hS) ?_
    refine walkBF (And.intro @len_vcells (And.intro @take_vcells (And.intro @take_vcellsC e5))) ?_
    refine ⟨by first | exact .inr rfl | exact .inl rfl, ?_⟩; rw [Tryz.results26]; simp only [resOk, resV, go_sem, simprocAttr]
    exact ⟨frz_v _ _ _, .c _⟩

noncomputable def fldAt (s : ST) (r f : Int) : VT × Int :=
  if rightM s = true ∧ 0 ≤ r ∧ 0 ≤ f then (match s.nodes[r.toNat]? with
    | none => (vz 0, 2)
    | some n => (match n.fields[f.toNat]? with
      | none => (vz 0, 2)
      | some fd => fldM s fd)) else (vz 0, 2)
theorem fldAt_no {s : ST} {r f : Int} (h : rightM s = false ∨ r < 0 ∨ (s.nodes.length : Int) ≤ r ∨ f < 0) : fldAt s r f = (vz 0, 2) := by
  unfold fldAt
  split
  · rename_i hp
    rcases h with h | h | h | h
    · rw [hp.1] at h; cases h
    · omega
    · rw [List.getElem?_eq_none (by omega)]
    · omega
  · rfl
theorem fldAt_none {s : ST} {r f : Int} {n : NT} (hn : s.nodes[r.toNat]? = some n) (h : n.fields[f.toNat]? = none) : fldAt s r f = (vz 0, 2) := by
  unfold fldAt
  split
  · rw [hn]
    simp only []
    rw [h]
  · rfl
theorem fldAt_some {s : ST} {q k : Nat} {n : NT} {fd : FT} (hr : rightM s = true) (hn : s.nodes[q]? = some n) (h : n.fields[k]? = some fd) : fldAt s (q : Int) (k : Int) = fldM s fd := by
  unfold fldAt
  rw [if_pos ⟨hr, by omega, by omega⟩, Int.toNat_natCast, Int.toNat_natCast, hn]
  simp only []
  rw [h]
theorem right_nofields {s : ST} (hr : rightM s = true) {n : NT} (hn : n ∈ s.nodes) (h9 : n.kind ≠ 9) (k : Nat) : n.fields[k]? = none := by
  cases h : n.fields[k]? with
  | none => rfl
  | some fd => exact absurd (right_kind hr hn h) h9
set_option maxRecDepth 100000 in
set_option maxHeartbeats 1600000 in
theorem field13_any (s : ST) (hs : s.sm 1000000) (hok : rightM s = true → SayOk s.nodes) (r f : Int) :
    Told Tryz.prog 27 [s.av, .c (.v (.int .i64 r)), .c (.v (.int .i64 f))] (.tup [(fldAt s r f).1.av, .c (.v (.int .i64 (fldAt s r f).2))]) := by
  have hR := sRight_told s hs
  have hZ : ∀ h : fldAt s r f = (vz 0, 2), ((rightM s = false) ∨ True) := fun _ => .inr trivial
  clear hZ
  by_cases h0 : r < 0
  · have e0 : decide (r < 0) = true := by simpa using h0
    rw [fldAt_no (.inr (.inl h0)), VT.av_eq]
    rw [ST.av_eq, scells_mk]
    refine VC.told ent_27 Tryz.func27 rfl Tryz.ntmps27 (by simp) (by first | rfl | simp [AV.pureB, AV.pureL, pureL_c, pures]) (by first | rfl | simp [AV.pureB, AV.pureL, pureL_c, pures]) fun hb => ?_
    clear hb
    refine walkBF (e0) ?_
    refine ⟨by first | exact .inr rfl | exact .inl rfl, ?_⟩; rw [Tryz.results27]; simp only [resOk, resV, go_sem, simprocAttr]
    exact ⟨frz_v _ _ _, .c _⟩
  have e0 : decide (r < 0) = false := by simpa using h0
  obtain ⟨q, rfl⟩ : ∃ q : Nat, r = (q : Int) := ⟨r.toNat, by omega⟩
  by_cases h1 : q < s.nodes.length
  rotate_left
  · have e1 : decide ((q : Int) ≥ (s.nodes.length : Int)) = true := by simp; omega
    rw [fldAt_no (.inr (.inr (.inl (by omega)))), VT.av_eq]
    rw [ST.av_eq, scells_mk]
    refine VC.told ent_27 Tryz.func27 rfl Tryz.ntmps27 (by simp) (by first | rfl | simp [AV.pureB, AV.pureL, pureL_c, pures]) (by first | rfl | simp [AV.pureB, AV.pureL, pureL_c, pures]) fun hb => ?_
    clear hb
    refine walkBF (And.intro e0 e1) ?_
    refine ⟨by first | exact .inr rfl | exact .inl rfl, ?_⟩; rw [Tryz.results27]; simp only [resOk, resV, go_sem, simprocAttr]
    exact ⟨frz_v _ _ _, .c _⟩
  have e1 : decide ((q : Int) ≥ (s.nodes.length : Int)) = false := by simp; omega
  obtain ⟨n, hn⟩ : ∃ n, s.nodes[q]? = some n := ⟨s.nodes[q], List.getElem?_eq_getElem h1⟩
  have hxp : (s.nodes.map NT.cells)[q]? = some n.cells := by rw [List.getElem?_map, hn]; rfl
  have hmem := List.mem_of_getElem? hn
  by_cases h9 : n.kind = 9
  rotate_left
  · have e2 : (n.kind != 9) = true := by simpa using h9
    have hz : fldAt s (q : Int) f = (vz 0, 2) := by
      by_cases hr : rightM s = true
      · exact fldAt_none (by simpa using hn) (right_nofields hr hmem h9 _)
      · exact fldAt_no (.inl (by simpa using hr))
    rw [hz, VT.av_eq]
    rw [ST.av_eq, scells_mk]
    refine VC.told ent_27 Tryz.func27 rfl Tryz.ntmps27 (by simp) (by first | rfl | simp [AV.pureB, AV.pureL, pureL_c, pures]) (by first | rfl | simp [AV.pureB, AV.pureL, pureL_c, pures]) fun hb => ?_
    clear hb
    refine walkBF (And.intro e0 (And.intro e1 (And.intro e2 (And.intro hxp @ncells_mk)))) ?_
    refine ⟨by first | exact .inr rfl | exact .inl rfl, ?_⟩; rw [Tryz.results27]; simp only [resOk, resV, go_sem, simprocAttr]
    exact ⟨frz_v _ _ _, .c _⟩
  have e2 : (n.kind != 9) = false := by simpa using h9
  by_cases h3 : f < 0
  · have e3 : decide (f < 0) = true := by simpa using h3
    rw [fldAt_no (.inr (.inr (.inr h3))), VT.av_eq]
    rw [ST.av_eq, scells_mk]
    refine VC.told ent_27 Tryz.func27 rfl Tryz.ntmps27 (by simp) (by first | rfl | simp [AV.pureB, AV.pureL, pureL_c, pures]) (by first | rfl | simp [AV.pureB, AV.pureL, pureL_c, pures]) fun hb => ?_
    clear hb
    refine walkBF (And.intro e0 (And.intro e1 (And.intro e2 (And.intro e3 (And.intro hxp @ncells_mk))))) ?_
    refine ⟨by first | exact .inr rfl | exact .inl rfl, ?_⟩; rw [Tryz.results27]; simp only [resOk, resV, go_sem, simprocAttr]
    exact ⟨frz_v _ _ _, .c _⟩
  have e3 : decide (f < 0) = false := by simpa using h3
  obtain ⟨k, rfl⟩ : ∃ k : Nat, f = (k : Int) := ⟨f.toNat, by omega⟩
  by_cases h4 : k < n.fields.length
  rotate_left
  · have e4 : decide ((k : Int) ≥ (n.fields.length : Int)) = true := by simp; omega
    rw [fldAt_none (n := n) (by simpa using hn) (List.getElem?_eq_none (by omega)), VT.av_eq]
    rw [ST.av_eq, scells_mk]
    refine VC.told ent_27 Tryz.func27 rfl Tryz.ntmps27 (by simp) (by first | rfl | simp [AV.pureB, AV.pureL, pureL_c, pures]) (by first | rfl | simp [AV.pureB, AV.pureL, pureL_c, pures]) fun hb => ?_
    clear hb
    refine walkBF (And.intro e0 (And.intro e1 (And.intro e2 (And.intro e3 (And.intro e4 (And.intro hxp @ncells_mk)))))) ?_
    refine ⟨by first | exact .inr rfl | exact .inl rfl, ?_⟩; rw [Tryz.results27]; simp only [resOk, resV, go_sem, simprocAttr]
    exact ⟨frz_v _ _ _, .c _⟩
  obtain ⟨fd, hfd⟩ : ∃ fd, n.fields[k]? = some fd := ⟨n.fields[k], List.getElem?_eq_getElem h4⟩
  have e4 : decide ((k : Int) ≥ (n.fields.length : Int)) = false := by simp; omega
  cases hr : rightM s with
  | true =>
    rw [fldAt_some hr hn hfd]
    exact field13_told s hs hr (hok hr) q k n hn h9 fd hfd
  | false =>
    rw [hr] at hR
    rw [fldAt_no (.inl hr), VT.av_eq]
    rw [ST.av_eq, scells_mk] at hR ⊢
    refine VC.told ent_27 Tryz.func27 rfl Tryz.ntmps27 (by simp) (by first | rfl | simp [AV.pureB, AV.pureL, pureL_c, pures]) (by first | rfl | simp [AV.pureB, AV.pureL, pureL_c, pures]) fun hb => ?_
    clear hb
    refine walkGF (And.intro e0 (And.intro e1 (And.intro e2 (And.intro e3 (And.intro e4 (And.intro hxp @ncells_mk)))))) ?_
    refine walkC (hR) ?_
    refine walkB ?_
    refine ⟨by first | exact .inr rfl | exact .inl rfl, ?_⟩; rw [Tryz.results27]; simp only [resOk, resV, go_sem, simprocAttr]
    exact ⟨frz_v _ _ _, .c _⟩
set_option maxRecDepth 100000 in
set_option maxHeartbeats 1600000 in
theorem rfield13_any (s : ST) (hs : s.sm 1000000) (hdp : ∀ n ∈ s.nodes, ∀ f ∈ n.fields, tdeep f.dflt ≤ 1000) (hok : rightM s = true → SayOk s.nodes) (r f : Int) :
    Told Tryz.prog 28 [s.av, .c (.v (.int .i64 r)), .c (.v (.int .i64 f))] (.tup [(fldAt s r f).1.av, .c (.v (.int .i64 (fldAt s r f).2))]) := by
  have hR := rRight_told s hs hdp
  cases hr : rightM s with
  | false =>
    rw [hr] at hR
    rw [fldAt_no (.inl hr), VT.av_eq]
    rw [ST.av_eq, scells_mk] at hR ⊢
    refine VC.told ent_28 Tryz.func28 rfl Tryz.ntmps28 (by simp) (by first | rfl | simp [AV.pureB, AV.pureL, pureL_c, pures]) (by first | rfl | simp [AV.pureB, AV.pureL, pureL_c, pures]) fun hb => ?_
    clear hb
    refine walkG ?_
    refine walkC (hR) ?_
    refine walkB ?_
    refine ⟨by first | exact .inr rfl | exact .inl rfl, ?_⟩; rw [Tryz.results28]; simp only [resOk, resV, go_sem, simprocAttr]
    exact ⟨frz_v _ _ _, .c _⟩
  | true =>
  rw [hr] at hR
  by_cases h0 : r < 0
  · have e0 : decide (r < 0) = true := by simpa using h0
    rw [fldAt_no (.inr (.inl h0)), VT.av_eq]
    rw [ST.av_eq, scells_mk] at hR ⊢
    refine VC.told ent_28 Tryz.func28 rfl Tryz.ntmps28 (by simp) (by first | rfl | simp [AV.pureB, AV.pureL, pureL_c, pures]) (by first | rfl | simp [AV.pureB, AV.pureL, pureL_c, pures]) fun hb => ?_
    clear hb
    refine walkG ?_
    refine walkC (hR) ?_
    refine walkBF (e0) ?_
    refine ⟨by first | exact .inr rfl | exact .inl rfl, ?_⟩; rw [Tryz.results28]; simp only [resOk, resV, go_sem, simprocAttr]
    exact ⟨frz_v _ _ _, .c _⟩
  have e0 : decide (r < 0) = false := by simpa using h0
  obtain ⟨q, rfl⟩ : ∃ q : Nat, r = (q : Int) := ⟨r.toNat, by omega⟩
  by_cases h1 : q < s.nodes.length
  rotate_left
  · have e1 : decide ((q : Int) ≥ (s.nodes.length : Int)) = true := by simp; omega
    rw [fldAt_no (.inr (.inr (.inl (by omega)))), VT.av_eq]
    rw [ST.av_eq, scells_mk] at hR ⊢
    refine VC.told ent_28 Tryz.func28 rfl Tryz.ntmps28 (by simp) (by first | rfl | simp [AV.pureB, AV.pureL, pureL_c, pures]) (by first | rfl | simp [AV.pureB, AV.pureL, pureL_c, pures]) fun hb => ?_
    clear hb
    refine walkG ?_
    refine walkC (hR) ?_
    refine walkBF (And.intro e0 e1) ?_
    refine ⟨by first | exact .inr rfl | exact .inl rfl, ?_⟩; rw [Tryz.results28]; simp only [resOk, resV, go_sem, simprocAttr]
    exact ⟨frz_v _ _ _, .c _⟩
  have e1 : decide ((q : Int) ≥ (s.nodes.length : Int)) = false := by simp; omega
  obtain ⟨n, hn⟩ : ∃ n, s.nodes[q]? = some n := ⟨s.nodes[q], List.getElem?_eq_getElem h1⟩
  have hxp : (s.nodes.map NT.cells)[q]? = some n.cells := by rw [List.getElem?_map, hn]; rfl
  have hmem := List.mem_of_getElem? hn
  by_cases h3 : f < 0
  · have e3 : decide (f < 0) = true := by simpa using h3
    rw [fldAt_no (.inr (.inr (.inr h3))), VT.av_eq]
    rw [ST.av_eq, scells_mk] at hR ⊢
    refine VC.told ent_28 Tryz.func28 rfl Tryz.ntmps28 (by simp) (by first | rfl | simp [AV.pureB, AV.pureL, pureL_c, pures]) (by first | rfl | simp [AV.pureB, AV.pureL, pureL_c, pures]) fun hb => ?_
    clear hb
    refine walkG ?_
    refine walkC (hR) ?_
    refine walkBF (And.intro e0 (And.intro e1 (And.intro e3 (And.intro hxp @ncells_mk)))) ?_
    refine ⟨by first | exact .inr rfl | exact .inl rfl, ?_⟩; rw [Tryz.results28]; simp only [resOk, resV, go_sem, simprocAttr]
    exact ⟨frz_v _ _ _, .c _⟩
  have e3 : decide (f < 0) = false := by simpa using h3
  obtain ⟨k, rfl⟩ : ∃ k : Nat, f = (k : Int) := ⟨f.toNat, by omega⟩
  by_cases h4 : k < n.fields.length
  rotate_left
  · have e4 : decide ((k : Int) ≥ (n.fields.length : Int)) = true := by simp; omega
    rw [fldAt_none (n := n) (by simpa using hn) (List.getElem?_eq_none (by omega)), VT.av_eq]
    rw [ST.av_eq, scells_mk] at hR ⊢
    refine VC.told ent_28 Tryz.func28 rfl Tryz.ntmps28 (by simp) (by first | rfl | simp [AV.pureB, AV.pureL, pureL_c, pures]) (by first | rfl | simp [AV.pureB, AV.pureL, pureL_c, pures]) fun hb => ?_
    clear hb
    refine walkG ?_
    refine walkC (hR) ?_
    refine walkBF (And.intro e0 (And.intro e1 (And.intro e3 (And.intro e4 (And.intro hxp @ncells_mk))))) ?_
    refine ⟨by first | exact .inr rfl | exact .inl rfl, ?_⟩; rw [Tryz.results28]; simp only [resOk, resV, go_sem, simprocAttr]
    exact ⟨frz_v _ _ _, .c _⟩
  obtain ⟨fd, hfd⟩ : ∃ fd, n.fields[k]? = some fd := ⟨n.fields[k], List.getElem?_eq_getElem h4⟩
  have e4 : decide ((k : Int) ≥ (n.fields.length : Int)) = false := by simp; omega
  have hxq : (n.fields.map FT.cells)[k]? = some fd.cells := by rw [List.getElem?_map, hfd]; rfl
  have hfm := List.mem_of_getElem? hfd
  have h9 := right_kind hr hmem hfd
  have hO := fun (h : fd.has = true) => rof13_told s hs hdp hok fd.type fd.dflt (((hok hr).2 n hmem).2.2.2.1 h9 fd hfm h).2.2 (((hok hr).2 n hmem).2.2.2.1 h9 fd hfm h).2.1 (hdp n hmem fd hfm)
  rw [fldAt_some hr hn hfd]
  unfold fldM
  generalize ofM s fd.type fd.dflt = V at *
  rw [ST.av_eq, scells_mk] at hR ⊢
  cases hh : fd.has with
  | false =>
    rw [if_neg (by decide), VT.av_eq]
    refine VC.told ent_28 Tryz.func28 rfl Tryz.ntmps28 (by simp) (by first | rfl | simp [AV.pureB, AV.pureL, pureL_c, pures]) (by first | rfl | simp [AV.pureB, AV.pureL, pureL_c, pures]) fun hb => ?_
    clear hb
    refine walkG ?_
    refine walkC (hR) ?_
    refine walkBF (And.intro e0 (And.intro e1 (And.intro e3 (And.intro e4 (And.intro hxp (And.intro @ncells_mk (And.intro hxq (And.intro @fcells_mk (And.intro @len_fcells (And.intro @take_fcells (And.intro @take_fcellsC (And.intro @len_cells (And.intro @take_cells (And.intro @take_cellsC hh)))))))))))))) ?_
    refine ⟨by first | exact .inr rfl | exact .inl rfl, ?_⟩; rw [Tryz.results28]; simp only [resOk, resV, go_sem, simprocAttr]
    exact ⟨frz_v _ _ _, .c _⟩
  | true =>
    rw [if_pos rfl]
    have hO := hO hh
    rw [JT.av_eq, ST.av_eq, scells_mk, VT.av_eq] at hO
    rw [VT.av_eq]
    refine VC.told ent_28 Tryz.func28 rfl Tryz.ntmps28 (by simp) (by first | rfl | simp [AV.pureB, AV.pureL, pureL_c, pures]) (by first | rfl | simp [AV.pureB, AV.pureL, pureL_c, pures]) fun hb => ?_
    clear hb
    refine walkG ?_
    refine walkC (hR) ?_
    refine walkBF (And.intro e0 (And.intro e1 (And.intro e3 (And.intro e4 (And.intro hxp (And.intro @ncells_mk (And.intro hxq (And.intro @fcells_mk (And.intro @len_fcells (And.intro @take_fcells (And.intro @take_fcellsC (And.intro @len_cells (And.intro @take_cells (And.intro @take_cellsC hh)))))))))))))) ?_
    refine walkCF (@pureL_c) (hO) ?_
    refine walkBF (And.intro @len_vcells (And.intro @take_vcells @take_vcellsC)) ?_
    refine ⟨by first | exact .inr rfl | exact .inl rfl, ?_⟩; rw [Tryz.results28]; simp only [resOk, resV, go_sem, simprocAttr]
    exact ⟨⟨by rw [len_vcells]; exact Nat.le_refl _, by rw [take_vcellsC]; exact Frz.cs _ _⟩, .c _⟩

set_option maxRecDepth 100000 in
set_option maxHeartbeats 1600000 in
theorem rvself_told : ∀ (m : Nat) (v : VT), SizeOf.sizeOf v ≤ m → v.sm 1000000 → Told Tryz.prog 20 [v.av, v.av] (.c (.v (.bool true))) := by
  intro m
  induction m with
  | zero => intro v hv; cases v; simp at hv
  | succ m ih =>
  intro v hv hsm
  cases v with
  | mk k n b s xs ks =>
  obtain ⟨_, _, _, _, hxl, hxs⟩ := hsm
  have hT := rtexts_told ks ks
  rw [show (ks == ks) = true by simp] at hT
  have hI := fun (x : VT) (hx : x ∈ xs) => ih x (by
    have h3 := List.sizeOf_lt_of_mem hx
    simp at hv
    omega) (vsmL_mem hxs x hx)
  clear ih hv
  have e : bstr (bytesOf (bytePV s)) = str s := by rw [bytesOf_pv]; rfl
  have f1 : (k != k) = false := by simp
  have f2 : (n != n) = false := by simp
  have f3 : (b != b) = false := by simp
  have f4 : ((xs.length : Int) != (xs.length : Int)) = false := by simp
  have f5 : (s != s) = false := by simp
  have hbs := bytePV_ok s
  simp only [VT.av_eq] at hI
  rw [VT.av_eq, vcells_mk]
  refine VC.told ent_20 Tryz.func20 rfl Tryz.ntmps20 (by simp) (by first | rfl | simp [AV.pureB, AV.pureL, pureL_c, pures]) (by first | rfl | simp [AV.pureB, AV.pureL, pureL_c, pures]) fun hb => ?_
  clear hb
  refine walkGF (And.intro f1 (And.intro f2 (And.intro f3 (And.intro f4 (And.intro f5 (And.intro e @str_toList)))))) ?_
  refine walkC (hT) ?_
  refine walkBF (And.intro f1 (And.intro f2 (And.intro f3 (And.intro f4 (And.intro f5 (And.intro e @str_toList)))))) ?_
  refine VC.loop (ι := {i : Nat // i ≤ xs.length}) (fun q => [(2, .ref 0 1 0 0), (3, .ref 8 1 0 0), (5, .c (.v (.int .i64 (q.1 : Int))))])
    (fun _ => [(0, ⟨false, 43, 6, [(VT.mk k n b s xs ks).cells.map .c]⟩), (8, ⟨false, 43, 6, [(VT.mk k n b s xs ks).cells.map .c]⟩)]) 800 (fun q => xs.length - q.1) ⟨0, Nat.zero_le _⟩ ?_ ?_
  · simp only [vcells_mk, Weak, eq_self, used_is, sc_any, sc_c, sc_pp, sc_ref, sc_row, sc_agg, sc_fn, ScL, some_imp, List.forall_mem_map, go_sem, Int.reduceBEq, Int.reduceLE, Int.reduceLT, Int.reduceNeg, Nat.reduceAdd, Nat.reduceEqDiff, Nat.reduceLT, Nat.reduceLeDiff, Nat.reduceMul, Nat.reduceSub, reduceCtorEq, ↓reduceIte]
    all_goals first | rfl | exact ⟨rfl, rfl⟩ | skip
  rintro ⟨i, hi⟩
  simp only [] at hi ⊢
  by_cases hlt : i < xs.length
  rotate_left
  · have e0 : decide ((i : Int) < (xs.length : Int)) = false := by simp; omega
    refine walkBF (And.intro @vcells_mk e0) ?_
    refine ⟨by first | exact .inr rfl | exact .inl rfl, ?_⟩; rw [Tryz.results20]; simp only [resOk, resV, go_sem, simprocAttr]
    exact .c _
  have e0 : decide ((i : Int) < (xs.length : Int)) = true := by simp; omega
  have hw : IntKind.i64.wrap ((i : Int) + 1) = (i : Int) + 1 := wrap64_id (by omega) (by omega)
  obtain ⟨x, hx⟩ : ∃ x, xs[i]? = some x := ⟨xs[i], List.getElem?_eq_getElem hlt⟩
  have hxq : (xs.map VT.cells)[i]? = some x.cells := by rw [List.getElem?_map, hx]; rfl
  have hSm := hI x (List.mem_of_getElem? hx)
  refine walkBF (And.intro @vcells_mk (And.intro e0 (And.intro hxq (And.intro @len_vcells (And.intro @take_vcells @take_vcellsC))))) ?_
  refine walkCF (And.intro @pureL_c (And.intro @len_vcells (And.intro @take_vcells @take_vcellsC))) (hSm) ?_
  refine walkBF (hw) ?_
  refine .next ⟨i + 1, by omega⟩ ?_ (by simp only []; omega)
  simp only [vcells_mk, Weak, eq_self, used_is, sc_any, sc_c, sc_pp, sc_ref, sc_row, sc_agg, sc_fn, ScL, some_imp, List.forall_mem_map, go_sem, Int.reduceBEq, Int.reduceLE, Int.reduceLT, Int.reduceNeg, Nat.reduceAdd, Nat.reduceEqDiff, Nat.reduceLT, Nat.reduceLeDiff, Nat.reduceMul, Nat.reduceSub, reduceCtorEq, ↓reduceIte]
  exact cI (by omega)
end
end Go.Proofs.YtllnlmchjljhlaaGreatDoor
