/- Texts that lead to the law DfltFields, joined. -/
import Derived.Test.YtllnlmchjljhlaaGreatDoorPkDfltFieldsF
import Derived.Test.YtllnlmchjljhlaaGreatDoorPkDfltFieldsXHu
import Derived.Test.YtllnlmchjljhlaaGreatDoorPkDfltFieldsA
import Derived.Test.YtllnlmchjljhlaaGreatDoorPkDfltFieldsB
import Derived.Test.YtllnlmchjljhlaaGreatDoorPkDfltFieldsC
import Derived.Test.YtllnlmchjljhlaaGreatDoorPkDfltFieldsD
namespace Go.Proofs.YtllnlmchjljhlaaGreatDoor
open Go.RowKit
set_option linter.unusedVariables false
set_option linter.unusedSimpArgs false
section
attribute [local go_sem] opx opE ev okx gcond bnd okO AV.get AV.okb cAV upd_at putd_some putd_none wrs_nil wrs_cons look_nil look_cons st argT_at bpick_and bpick_or bpick_true bpick_false binV binI binS binVOk binOk isShift binSOk unV unVOk loadV loadP cellsA zeroA Blkd.len setE grown moreA moreR moreOk eqRes pv fillA fillE putSeg AV.cellish AV.pureL AV.pureB lentL_is ex_some AV.ren AV.renL renL_c Blkd.ren rho wrM renN lentOk rhoE keepM endOk tyA_2 tyA_3 tyA_4 tyA_5 tyA_6 tyA_7 tyA_8 tyA_9 tyA_10 tyA_11 tyA_12 tyA_13 tyA_14 tyA_15 tyA_16 tyA_17 tyA_18 tyA_19 tyA_21 tyA_22 tyA_23 tyA_24 tyA_29 tyA_30 tyA_31 tyA_32 tyA_33 tyA_34 tyA_35 tyA_36 tyA_37 tyA_38 tyA_39 tyA_40 tyA_41 tyA_42 tyA_43 tyA_49 tyA_85 tyA_89 tyA_99 tyA_100 tyA_101 tyA_105 tyA_106 tyA_107 tyA_108 tyA_109 tyA_111 tyA_112 tyA_113 tyA_114 tyA_123 tyA_126 tyA_127 tyA_128 tyA_129 tyA_130 tyA_153 tyA_163 tyA_164 tyA_165 tyA_179 tyA_185 tyA_191 tyA_192 tyA_193 tyA_194 tyA_195 tyA_196 tyA_209 tyA_213 tyA_214 tyA_215 tyA_241 tyA_248 tyA_274 tyA_275 tyA_276 tyA_292 tyA_294 tyA_302 tyA_307 tyA_315 tyA_319 tyA_321 tyA_324 tyA_325 tyA_326 tyA_327 tyA_328 tyA_329 tyA_330 tyA_332 tyA_333 Option.map_some Option.map_none Option.getD_some Option.getD_none Option.bind_some Option.bind_none List.getElem?_cons_zero List.getElem?_cons_succ List.getElem?_nil List.getElem?_toArray List.length_cons List.length_nil List.length_map List.forall_mem_map List.map_cons List.map_nil List.drop_zero List.drop_succ_cons List.drop_nil List.take_zero List.take_succ_cons List.take_nil List.mem_cons List.not_mem_nil or_false forall_eq_or_imp forall_eq List.set_cons_zero List.set_cons_succ List.cons_append List.nil_append List.append_nil List.foldl_cons List.foldl_nil List.replicate_succ List.replicate_zero List.all_cons List.all_nil if_true if_false Bool.false_eq_true ne_eq not_false_eq_true not_true_eq_false true_and and_true and_self true_implies imp_self implies_true forall_const beq_self_eq_true Bool.and_true Bool.true_and Bool.and_false Bool.false_and Bool.or_true Bool.true_or Bool.or_false Bool.false_or Bool.not_true Bool.not_false Bool.not_eq_eq_eq_not intKindOf Value.oneCell' Int.toNat_natCast beq_true beq_false Bool.not_eq_true false_implies false_or true_or or_true Nat.zero_add Nat.add_zero decide_true decide_false Int.cast_ofNat_Int Int.toNat_zero Int.toNat_one eq_self

def recV (f : Say) (rv : Int → JT → Nat → VT) (j : JT) : List FT → Nat → List VT
  | [], _ => []
  | x :: xs, c => match fieldJ j x with
    | none => []
    | some i => rv x.type i c :: (if (f x.type i c).2.1 = true then recV f rv j xs (f x.type i c).2.2 else [])
theorem jok_field {j t : JT} {fd : FT} (hj : JOk j) (hdf : fd.has = true → JOk fd.dflt) (hF : fieldJ j fd = some t) : JOk t := by
  unfold fieldJ at hF
  cases hg : jget j fd.name with
  | some i =>
    rw [hg] at hF
    obtain rfl := Option.some.inj hF
    exact jok_get hj hg
  | none =>
    rw [hg] at hF
    simp only [] at hF
    split at hF
    · rename_i hh
      obtain rfl := Option.some.inj hF
      exact hdf hh
    · simp at hF
theorem recV_ok {s : ST} {f : Say} {rv : Int → JT → Nat → VT} {dep : Int} (hT : RSayT s f rv dep) (hC : SayC f) {j : JT} (hj : JOk j) : ∀ (fs : List FT), (∀ fd ∈ fs, 0 ≤ fd.type ∧ fd.type < (s.nodes.length : Int)) → (∀ fd ∈ fs, fd.has = true → JOk fd.dflt) → ∀ (c : Nat), c ≤ 1000 → ∀ vs, (recF f j fs c).1 = some vs → recV f rv j fs c = vs
  | [], _, _, c, _, vs, h => by
    rw [recF] at h
    exact Option.some.inj h
  | x :: xs, hk, hd, c, hc, vs, h => by
    rw [recF] at h
    rw [recV]
    cases hF : fieldJ j x with
    | none => rw [hF] at h; simp at h
    | some i =>
      rw [hF] at h
      simp only [] at h ⊢
      by_cases hok : (f x.type i c).2.1 = true
      · rw [if_pos hok] at h ⊢
        cases hr : (recF f j xs (f x.type i c).2.2).1 with
        | none => rw [hr] at h; simp at h
        | some us =>
          rw [hr] at h
          simp only [Option.map_some, Option.some.injEq] at h
          rw [recV_ok hT hC hj xs (fun fd h => hk fd (by simp [h])) (fun fd h => hd fd (by simp [h])) _ (hC _ _ _ hok) us hr, (hT x.type i c (hk x (by simp)).1 (hk x (by simp)).2 (jok_field hj (hd x (by simp)) hF) hc).2 hok]
          exact h
      · rw [if_neg hok] at h
        simp at h
def recO (f : Say) (rv : Int → JT → Nat → VT) (j : JT) (fs : List FT) (S : Bool) (E : Nat) (RL out : List VT) : Option Nat → Bool → Prop
  | some c, true => c ≤ 1000 ∧ S = (recF f j fs c).1.isSome ∧ E = (recF f j fs c).2 ∧ RL = out ++ recV f rv j fs c
  | some _, false => S = false ∧ RL = out
  | none, _ => S = false ∧ RL = out
set_option maxRecDepth 100000 in
set_option maxHeartbeats 3200000 in
theorem rs_9 (s : ST) (q : Nat) (n : NT) (hn : s.nodes[q]? = some n) (j : JT) (c0 : Nat) (hm : ¬ 1000 < c0 + 1) (dep : Int) (hk : n.kind = 9) (hd : dep < 20) (hd0 : 0 ≤ dep) (f : Say) (rv : Int → JT → Nat → VT) (hT : RSayT s f rv (dep + 1)) (hC : SayC f) (hj : JOk j) (hns : n.sm 1000000) (hkid : ∀ fd ∈ n.fields, 0 ≤ fd.type ∧ fd.type < (s.nodes.length : Int)) (hdf : ∀ fd ∈ n.fields, fd.has = true → JOk fd.dflt) :
    ∃ v : VT, Told Tryz.prog 69 [s.av, .c (.v (.int .i64 (q : Int))), j.av, .c (.v (.int .i64 dep)), .c (.v (.int .i64 (1000 - (c0 : Int))))] (.tup [v.av, .c (.v (.int .i64 (lft ((recF f j n.fields (c0 + 1)).1.isSome && j.kd == 6) (1000 - ((recF f j n.fields (c0 + 1)).2 : Int)))))]) ∧ (((recF f j n.fields (c0 + 1)).1.isSome && j.kd == 6) = true → v = .mk 9 0 0 [] ((recF f j n.fields (c0 + 1)).1.getD []) []) := by
  have hfl := hns.2.2.2.2.2.1
  have hql := (List.getElem?_eq_some_iff.1 hn).1
  have hxp : (s.nodes.map NT.cells)[q]? = some n.cells := by rw [List.getElem?_map, hn]; rfl
  have hw : IntKind.i64.wrap (1000 - (c0 : Int) - 1) = 1000 - ((c0 + 1 : Nat) : Int) := by rw [wrap64_id (by omega) (by omega)]; omega
  have e1 : decide (1000 - ((c0 + 1 : Nat) : Int) < 0) = false := by simp; omega
  have hD : (dep == 20) = false := by simp; omega
  have hw2 : IntKind.i64.wrap (dep + 1) = dep + 1 := wrap64_id (by omega) (by omega)
  have hG := fun key => rget13_told j key
  obtain ⟨b1, h1⟩ : ∃ b : Bool, b = (j.kd == 6) := ⟨_, rfl⟩
  obtain ⟨S, hS⟩ : ∃ S, S = (recF f j n.fields (c0 + 1)).1.isSome := ⟨_, rfl⟩
  obtain ⟨E, hE⟩ : ∃ E, E = (recF f j n.fields (c0 + 1)).2 := ⟨_, rfl⟩
  obtain ⟨RL, hRL⟩ : ∃ RL, RL = recV f rv j n.fields (c0 + 1) := ⟨_, rfl⟩
  cases b1 with
  | false =>
    rw [← h1, Bool.and_false]
    refine ⟨VT.mk 9 0 0 [] [] [], ?_, by simp⟩
    rw [ST.av_eq, VT.av_eq]
    rw [JT.av_eq]
    refine VC.told ent_69 Tryz.func69 rfl Tryz.ntmps69 (by simp) (by first | rfl | simp [AV.pureB, AV.pureL, pureL_c, pures]) (by first | rfl | simp [AV.pureB, AV.pureL, pureL_c, pures]) fun hb => ?_
    clear hb
    refine walkBF (And.intro hxp (And.intro @ncells_mk (And.intro @scells_mk (And.intro hw (And.intro hk (And.intro hD (And.intro e1 (And.intro @jcells_acc h1.symm)))))))) ?_
    refine VC.loop (ι := Unit)
          (fun q => [(4, .c (.v (.int .i64 (1000 - ((c0 + 1 : Nat) : Int))))), (10, .ref 16 1 0 0), (12, .ref 72 1 0 0), (13, .ref 136 1 0 0), (14, .c (.v (.bool false))), (20, .c (.v (.int .i64 ((0 : Nat) : Int))))])
          (fun q => [(16, ⟨false, 43, 6, [[.c (.v (.int .i64 0)), .c (.v (.int .i64 0)), .c (.v (.int .u64 0)), .c (.v (.slice none 0 0)), .c (.v (.slice none 0 0)), .c (.v (.slice none 0 0))]]⟩), (72, ⟨false, 33, 10, [n.cells.map .c]⟩), (136, ⟨false, 43, 6, [[.c (.v (.int .i64 9)), .c (.v (.int .i64 0)), .c (.v (.int .u64 0)), .c (.v (.slice none 0 0)), .c (.v (.slice none 0 0)), .c (.v (.slice none 0 0))]]⟩)]) 1600 (fun q => 0)
          () ?_ ?_
    · simp only [ncells_mk, hk, jcells_acc, scells_mk, Weak, eq_self, used_is, sc_any, sc_c, sc_pp, sc_ref, sc_row, sc_agg, sc_fn, ScL, some_imp, List.forall_mem_map, go_sem, Int.reduceBEq, Int.reduceLE, Int.reduceLT, Int.reduceNeg, Nat.reduceAdd, Nat.reduceEqDiff, Nat.reduceLT, Nat.reduceLeDiff, Nat.reduceMul, Nat.reduceSub, reduceCtorEq, ↓reduceIte]
      all_goals first | rfl | exact ⟨rfl, rfl⟩ | exact ⟨⟨rfl, rfl⟩, rfl⟩ | skip
    rintro ⟨⟩
    obtain ⟨e0, he0⟩ : ∃ e0 : Bool, e0 = decide ((0 : Int) < (n.fields.length : Int)) := ⟨_, rfl⟩
    cases e0
    all_goals
      refine walkBF (And.intro @ncells_mk (And.intro hk (And.intro @jcells_acc (And.intro h1.symm he0.symm)))) ?_
      refine ⟨by first | exact .inr rfl | exact .inl rfl, ?_⟩; rw [Tryz.results69]; simp only [resOk, resV, go_sem, simprocAttr]
      exact ⟨frz_v _ _ _, .c _⟩
  | true =>
    rw [← h1, Bool.and_true]
    refine ⟨VT.mk 9 0 0 [] RL [], ?_, fun h => ?_⟩
    rotate_left
    · obtain ⟨vs, hvs⟩ := Option.isSome_iff_exists.1 h
      rw [hRL, hvs, recV_ok hT hC hj n.fields hkid hdf (c0 + 1) (by omega) vs hvs]
      first | done | rfl
    rw [← hS, ← hE]
    rw [JT.av_eq] at hG ⊢
    rw [ST.av_eq, VT.av_eq]
    refine VC.told ent_69 Tryz.func69 rfl Tryz.ntmps69 (by simp) (by first | rfl | simp [AV.pureB, AV.pureL, pureL_c, pures]) (by first | rfl | simp [AV.pureB, AV.pureL, pureL_c, pures]) fun hb => ?_
    clear hb
    refine walkBF (And.intro hxp (And.intro @ncells_mk (And.intro @scells_mk (And.intro hw (And.intro hk (And.intro hD (And.intro e1 (And.intro @jcells_acc h1.symm)))))))) ?_
    refine VC.nilH 136 4 43 6 ⟨false, 43, 6, [[.c (.v (.int .i64 9)), .c (.v (.int .i64 0)), .c (.v (.int .u64 0)), .c (.v (.slice none 0 0)), .c (.v (.slice none 0 0)), .c (.v (.slice none 0 0))]]⟩ [.c (.v (.int .i64 9)), .c (.v (.int .i64 0)), .c (.v (.int .u64 0)), .c (.v (.slice none 0 0)), .c (.v (.slice none 0 0)), .c (.v (.slice none 0 0))] rfl rfl rfl rfl (by rfl) ?_
    refine VC.loop (ι := {q : Nat × List VT × Option Nat × Bool // q.1 ≤ n.fields.length ∧ q.2.1.length ≤ q.1 ∧ recO f rv j (n.fields.drop q.1) S E RL q.2.1 q.2.2.1 q.2.2.2})
          (fun q => [(3, .c (.v (.int .i64 dep))), (4, .c (.v (.int .i64 (lftO q.1.2.2.1)))), (5, .ref 0 1 0 0), (7, .ref 8 1 0 0), (10, .ref 16 1 0 0), (12, .ref 72 1 0 0), (13, .ref 136 1 0 0), (14, .c (.v (.bool q.1.2.2.2))), (20, .c (.v (.int .i64 (q.1.1 : Int))))])
          (fun q => [(0, ⟨false, 24, 2, [s.cells.map .c]⟩), (8, ⟨false, 36, 5, [j.cells.map .c]⟩), (16, ⟨false, 43, 6, [[.c (.v (.int .i64 0)), .c (.v (.int .i64 0)), .c (.v (.int .u64 0)), .c (.v (.slice none 0 0)), .c (.v (.slice none 0 0)), .c (.v (.slice none 0 0))]]⟩), (72, ⟨false, 33, 10, [n.cells.map .c]⟩), (136, ⟨false, 43, 6, [[.c (.v (.int .i64 9)), .c (.v (.int .i64 0)), .c (.v (.int .u64 0)), .c (.v (.slice none 0 0)), .row 648 q.1.2.1.length, .c (.v (.slice none 0 0))]]⟩), (648, ⟨true, 43, 6, rA VT.cells q.1.2.1⟩)]) 2400 (fun q => n.fields.length - q.1.1)
          ⟨(0, [], some (c0 + 1), true), Nat.zero_le _, Nat.zero_le _, by omega, hS, hE, by rw [hRL]; rfl⟩ ?_ ?_
    · simp only [ncells_mk, hk, jcells_acc, scells_mk, rA_len, rA_sc, Weak, eq_self, used_is, sc_any, sc_c, sc_pp, sc_ref, sc_row, sc_agg, sc_fn, ScL, some_imp, List.forall_mem_map, go_sem, Int.reduceBEq, Int.reduceLE, Int.reduceLT, Int.reduceNeg, Nat.reduceAdd, Nat.reduceEqDiff, Nat.reduceLT, Nat.reduceLeDiff, Nat.reduceMul, Nat.reduceSub, reduceCtorEq, ↓reduceIte]
      all_goals first | rfl | exact ⟨rfl, rfl⟩ | exact ⟨⟨rfl, rfl⟩, rfl⟩ | skip
    rintro ⟨⟨i, out, so, ok⟩, hi, hol, hrec⟩
    simp only [] at hi hol hrec ⊢
    have hl : (rA VT.cells out).length = out.length := by rw [rA_len]
    by_cases hlt : i < n.fields.length
    rotate_left
    · have hie : i = n.fields.length := by omega
      have e0 : decide ((i : Int) < (n.fields.length : Int)) = false := by simp; omega
      have hfin : RL = out ∧ lft S (1000 - (E : Int)) = (if ok = true then lftO so else -1) := by
        rw [hie, List.drop_length] at hrec
        cases so <;> cases ok <;> simp only [recO] at hrec
        · rw [hrec.1]; exact ⟨hrec.2, rfl⟩
        · rw [hrec.1]; exact ⟨hrec.2, rfl⟩
        · rw [hrec.1]; exact ⟨hrec.2, rfl⟩
        · obtain ⟨_, g1, g2, g3⟩ := hrec
          rw [g1, g2, g3]
          exact ⟨by simp [recV], rfl⟩
      cases ok
      · refine walkBF (And.intro @ncells_mk (And.intro hk e0)) ?_
        refine ⟨by first | exact .inr rfl | exact .inl rfl, ?_⟩; rw [Tryz.results69]; simp only [resOk, resV, go_sem, simprocAttr]
        rw [hfin.1, hfin.2, vcells_mk]
        exact ⟨Frz.aggL (.cons (.c _) (.cons (.c _) (.cons (.c _) (.cons (.nil 1) (.cons (frz_rA (f := VT.cells) (l := out) (T := 43) rfl rfl rfl fun x _ => len_vcells x) (.cons (.nil 1) .nil)))))), .c _⟩
      · refine walkBF (And.intro @ncells_mk (And.intro hk e0)) ?_
        refine ⟨by first | exact .inr rfl | exact .inl rfl, ?_⟩; rw [Tryz.results69]; simp only [resOk, resV, go_sem, simprocAttr]
        rw [hfin.1, hfin.2, vcells_mk]
        exact ⟨Frz.aggL (.cons (.c _) (.cons (.c _) (.cons (.c _) (.cons (.nil 1) (.cons (frz_rA (f := VT.cells) (l := out) (T := 43) rfl rfl rfl fun x _ => len_vcells x) (.cons (.nil 1) .nil)))))), .c _⟩
    have e0 : decide ((i : Int) < (n.fields.length : Int)) = true := by simp; omega
    cases ok with
    | false =>
      have hfin : RL = out ∧ S = false := by
        cases so <;> exact ⟨hrec.2, hrec.1⟩
      refine walkBF (And.intro @ncells_mk (And.intro hk e0)) ?_
      refine ⟨by first | exact .inr rfl | exact .inl rfl, ?_⟩; rw [Tryz.results69]; simp only [resOk, resV, go_sem, simprocAttr]
      rw [hfin.1, hfin.2, vcells_mk]
      exact ⟨Frz.aggL (.cons (.c _) (.cons (.c _) (.cons (.c _) (.cons (.nil 1) (.cons (frz_rA (f := VT.cells) (l := out) (T := 43) rfl rfl rfl fun x _ => len_vcells x) (.cons (.nil 1) .nil)))))), .c _⟩
    | true =>
    cases so with
    | none =>
      have hfin : RL = out ∧ S = false := ⟨hrec.2, hrec.1⟩
      have e2 : decide ((-1 : Int) ≥ 0) = false := by decide
      simp only [lftO]
      refine walkBF (And.intro @ncells_mk (And.intro hk (And.intro e0 e2))) ?_
      refine ⟨by first | exact .inr rfl | exact .inl rfl, ?_⟩; rw [Tryz.results69]; simp only [resOk, resV, go_sem, simprocAttr]
      rw [hfin.1, hfin.2, vcells_mk]
      exact ⟨Frz.aggL (.cons (.c _) (.cons (.c _) (.cons (.c _) (.cons (.nil 1) (.cons (frz_rA (f := VT.cells) (l := out) (T := 43) rfl rfl rfl fun x _ => len_vcells x) (.cons (.nil 1) .nil)))))), .c _⟩
    | some c =>
    obtain ⟨hc, g1, g2, g3⟩ := hrec
    have e2 : decide ((1000 : Int) - (c : Int) ≥ 0) = true := by simp; omega
    obtain ⟨fd, hx⟩ : ∃ fd, n.fields[i]? = some fd := ⟨n.fields[i], List.getElem?_eq_getElem hlt⟩
    have hmem := List.mem_of_getElem? hx
    have hxq : (n.fields.map FT.cells)[i]? = some fd.cells := by rw [List.getElem?_map, hx]; rfl
    have hw3 : IntKind.i64.wrap ((i : Int) + 1) = (i : Int) + 1 := wrap64_id (by omega) (by omega)
    have hdr : n.fields.drop i = fd :: n.fields.drop (i + 1) := by
      rw [List.drop_eq_getElem_cons hlt]
      congr 1
      exact Option.some.inj ((List.getElem?_eq_getElem hlt).symm.trans hx)
    obtain ⟨ka, kb⟩ := hkid fd hmem
    have hGf := hG fd.name
    rw [hdr] at g1 g2 g3
    rw [recF] at g1 g2
    rw [recV] at g3
    have hend : ∀ t : JT, fieldJ j fd = some t → ∃ so2 : Option Nat, lft (f fd.type t c).2.1 (1000 - ((f fd.type t c).2.2 : Int)) = lftO so2 ∧ recO f rv j (n.fields.drop (i + 1)) S E RL (out ++ [rv fd.type t c]) so2 true := by
      intro t hF
      rw [hF] at g1 g2 g3
      simp only [] at g1 g2 g3
      by_cases hok : (f fd.type t c).2.1 = true
      · rw [if_pos hok] at g1 g2 g3
        refine ⟨some (f fd.type t c).2.2, by rw [hok]; rfl, hC _ _ _ hok, ?_, g2, by rw [g3]; simp⟩
        rw [g1]
        cases (recF f j (n.fields.drop (i + 1)) (f fd.type t c).2.2).1 <;> rfl
      · rw [if_neg hok] at g1 g2 g3
        exact ⟨none, by rw [show (f fd.type t c).2.1 = false by simpa using hok]; rfl, g1, g3⟩
    simp only [lftO]
    cases hg : jget j fd.name with
    | some t =>
      rw [hg] at hGf
      simp only [Option.getD_some, Option.isSome_some] at hGf
      have hF : fieldJ j fd = some t := by rw [fieldJ, hg]
      rw [JT.av_eq] at hGf
      obtain ⟨so2, hso, hrec2⟩ := hend t hF
      have hSay := (hT fd.type t c ka kb (jok_field hj (hdf fd hmem) hF) hc).1
      rw [hso] at hSay
      generalize rv fd.type t c = v at *
      rw [ST.av_eq, JT.av_eq, VT.av_eq] at hSay
      refine walkBF (And.intro @ncells_mk (And.intro hk (And.intro e0 (And.intro e2 (And.intro hxq (And.intro @fcells_mk (And.intro @len_fcells (And.intro @take_fcells (And.intro @take_fcellsC (And.intro @len_cells (And.intro @take_cells @take_cellsC))))))))))) ?_
      refine walkCF (@pureL_c) (hGf) ?_
      refine walkBF (And.intro @ncells_mk (And.intro hk (And.intro hxq (And.intro @fcells_mk (And.intro hw2 (And.intro @len_cells (And.intro @take_cells (And.intro @take_cellsC (And.intro @len_scells (And.intro @take_scells (And.intro @take_scellsC e2))))))))))) ?_
      refine walkCF (And.intro hw2 (And.intro @pureL_c (And.intro @len_cells (And.intro @take_cells @take_cellsC)))) (hSay) ?_
      refine walkBF (And.intro @len_vcells (And.intro @take_vcells (And.intro @take_vcellsC (And.intro hl (And.intro @rA_vone hw3))))) ?_
      refine .next ⟨(i + 1, out ++ [v], so2, true), by simp only []; omega, by simp; omega, hrec2⟩ ?_ (by simp only []; omega)
      simp only [ncells_mk, hk, scells_mk, rA_len, rA_sc, jcells_acc, Weak, eq_self, used_is, sc_any, sc_c, sc_pp, sc_ref, sc_row, sc_agg, sc_fn, ScL, some_imp, List.forall_mem_map, go_sem, Int.reduceBEq, Int.reduceLE, Int.reduceLT, Int.reduceNeg, Nat.reduceAdd, Nat.reduceEqDiff, Nat.reduceLT, Nat.reduceLeDiff, Nat.reduceMul, Nat.reduceSub, reduceCtorEq, ↓reduceIte]
      exact ⟨⟨by cases so2 <;> rfl, cI (by omega)⟩, by simp, Nat.le_refl _⟩
    | none =>
      rw [hg] at hGf
      simp only [Option.getD_none, Option.isSome_none] at hGf
      rw [JT.av_eq] at hGf
      have hz : (List.map AV.c zJ.cells).drop 5 = [] := by rw [zJ_cells]; rfl
      cases hh : fd.has with
      | false =>
        have hF : fieldJ j fd = none := by
          rw [fieldJ, hg]
          simp [hh]
        rw [hF] at g1 g2 g3
        refine walkBF (And.intro @ncells_mk (And.intro hk (And.intro e0 (And.intro e2 (And.intro hxq (And.intro @fcells_mk (And.intro @len_fcells (And.intro @take_fcells (And.intro @take_fcellsC (And.intro @len_cells (And.intro @take_cells @take_cellsC))))))))))) ?_
        refine walkCF (@pureL_c) (hGf) ?_
        refine walkBF (And.intro @ncells_mk (And.intro hk (And.intro hxq (And.intro @fcells_mk (And.intro hh (And.intro hz (And.intro hw3 (And.intro @len_cells (And.intro @take_cells @take_cellsC))))))))) ?_
        refine .next ⟨(i + 1, out, some c, false), by simp only []; omega, by simp only []; omega, g1, by simpa using g3⟩ ?_ (by simp only []; omega)
        simp only [ncells_mk, hk, scells_mk, rA_len, rA_sc, jcells_acc, Weak, eq_self, used_is, sc_any, sc_c, sc_pp, sc_ref, sc_row, sc_agg, sc_fn, ScL, some_imp, List.forall_mem_map, go_sem, Int.reduceBEq, Int.reduceLE, Int.reduceLT, Int.reduceNeg, Nat.reduceAdd, Nat.reduceEqDiff, Nat.reduceLT, Nat.reduceLeDiff, Nat.reduceMul, Nat.reduceSub, reduceCtorEq, ↓reduceIte]
        exact ⟨cI (by omega), Nat.le_refl _⟩
      | true =>
        obtain ⟨t, ht⟩ : ∃ t, t = fd.dflt := ⟨_, rfl⟩
        have hF : fieldJ j fd = some t := by
          rw [fieldJ, hg]
          simp [hh, ht]
        obtain ⟨so2, hso, hrec2⟩ := hend t hF
        have hSay := (hT fd.type t c ka kb (jok_field hj (hdf fd hmem) hF) hc).1
        rw [hso] at hSay
        generalize rv fd.type t c = v at *
        rw [ST.av_eq, JT.av_eq, VT.av_eq] at hSay
        refine walkBF (And.intro @ncells_mk (And.intro hk (And.intro e0 (And.intro e2 (And.intro hxq (And.intro @fcells_mk (And.intro @len_fcells (And.intro @take_fcells (And.intro @take_fcellsC (And.intro @len_cells (And.intro @take_cells @take_cellsC))))))))))) ?_
        refine walkCF (@pureL_c) (hGf) ?_
        refine walkBF (And.intro @ncells_mk (And.intro hk (And.intro hxq (And.intro @fcells_mk (And.intro hw2 (And.intro @len_cells (And.intro @take_cells (And.intro @take_cellsC (And.intro @len_scells (And.intro @take_scells (And.intro @take_scellsC (And.intro e2 (And.intro hh (And.intro hz ht.symm)))))))))))))) ?_
        refine walkCF (And.intro hw2 (And.intro @pureL_c (And.intro @len_cells (And.intro @take_cells @take_cellsC)))) (hSay) ?_
        refine walkBF (And.intro @len_vcells (And.intro @take_vcells (And.intro @take_vcellsC (And.intro hl (And.intro @rA_vone hw3))))) ?_
        refine .next ⟨(i + 1, out ++ [v], so2, true), by simp only []; omega, by simp; omega, hrec2⟩ ?_ (by simp only []; omega)
        simp only [ncells_mk, hk, scells_mk, rA_len, rA_sc, jcells_acc, Weak, eq_self, used_is, sc_any, sc_c, sc_pp, sc_ref, sc_row, sc_agg, sc_fn, ScL, some_imp, List.forall_mem_map, go_sem, Int.reduceBEq, Int.reduceLE, Int.reduceLT, Int.reduceNeg, Nat.reduceAdd, Nat.reduceEqDiff, Nat.reduceLT, Nat.reduceLeDiff, Nat.reduceMul, Nat.reduceSub, reduceCtorEq, ↓reduceIte]
        exact ⟨⟨by cases so2 <;> rfl, cI (by omega)⟩, by simp, Nat.le_refl _⟩

def SymOk (ns : List NT) : Prop := ∀ n ∈ ns, n.kind = 10 → n.symbols.Nodup
theorem rsay_leaf (s : ST) (q : Nat) (n : NT) (hn : s.nodes[q]? = some n) (hk1 : 1 ≤ n.kind) (hk2 : n.kind ≤ 14) (hcm : ¬ compK n.kind = true) (hsy : n.kind = 10 → n.symbols.Nodup) (hsm : n.sm 1000000) (j : JT) (hj : JOk j) (c : Nat) (hc : c ≤ 1000) (dep : Int) (h : ¬ 1000 < c + 1) :
    ∃ v : VT, Told Tryz.prog 69 [s.av, .c (.v (.int .i64 (q : Int))), j.av, .c (.v (.int .i64 dep)), .c (.v (.int .i64 (1000 - (c : Int))))] (.tup [v.av, .c (.v (.int .i64 (lft (leafS n j).2 (1000 - ((c + 1 : Nat) : Int)))))]) ∧ ((leafS n j).2 = true → v = (leafS n j).1) := by
  unfold compK at hcm
  simp only [Bool.or_eq_true, beq_iff_eq, not_or] at hcm
  have e : 1000 - ((c + 1 : Nat) : Int) = 1000 - (c : Int) - 1 := by omega
  have l0 : -1000 ≤ 1000 - (c : Int) := by omega
  have l1 : 1000 - (c : Int) ≤ 1000 := by omega
  have l2 : ¬ 1000 - (c : Int) - 1 < 0 := by omega
  unfold leafS
  by_cases g1 : n.kind = 1
  · rw [if_pos g1, e]; exact ⟨_, rs_1 s q n hn j dep _ l0 l1 g1 l2, fun _ => rfl⟩
  rw [if_neg g1]
  by_cases g2 : n.kind = 2
  · rw [if_pos g2, e]; exact ⟨_, rs_2 s q n hn j dep _ l0 l1 g2 l2, fun _ => rfl⟩
  rw [if_neg g2]
  by_cases g3 : n.kind = 3 ∨ n.kind = 4 ∨ n.kind = 5 ∨ n.kind = 6
  · rw [if_pos g3, e]
    rcases g3 with g | g | g | g
    · rw [g]; exact ⟨_, rs_3 s q n hn j dep _ l0 l1 g l2 hj, fun _ => rfl⟩
    · rw [g]; exact ⟨_, rs_4 s q n hn j dep _ l0 l1 g l2, fun _ => rfl⟩
    · rw [g]; exact ⟨_, rs_5 s q n hn j dep _ l0 l1 g l2 hj, fun _ => rfl⟩
    · rw [g]; exact ⟨_, rs_6 s q n hn j dep _ l0 l1 g l2 hj, fun _ => rfl⟩
  rw [if_neg g3]
  by_cases g10 : n.kind = 10
  · rw [if_pos g10]
    obtain ⟨x, hx, hv⟩ := rs_10 s q n hn j c h dep g10 (hsy g10) hsm.2.2.2.1.1
    exact ⟨_, hx, fun k => by rw [hv k]⟩
  rw [if_neg g10]
  have htx : ∀ K : Int, (K = 7 ∨ K = 14) → n.kind = K → (textS n j).2 = true → VT.mk K 0 0 ((latF j.txt 0).getD []) [] [] = (textS n j).1 := by
    intro K hK g hk
    unfold textS at hk ⊢
    by_cases h4 : j.kd = 4
    · rw [if_pos h4, if_neg (by omega)] at hk ⊢
      cases hl : latF j.txt 0 with
      | none => rw [hl] at hk; simp at hk
      | some b => rw [g]; rfl
    · rw [if_neg h4] at hk
      simp at hk
  have h788 : n.kind = 7 ∨ n.kind = 8 ∨ n.kind = 14 := by omega
  rcases h788 with g | g | g
  · rw [e]; exact ⟨_, rs_714 s q n hn j dep _ l0 l1 (.inl g) l2 hj, by rw [g]; exact htx 7 (.inl rfl) g⟩
  · have h8 : (textS n j).2 = (j.kd == 4 && decide (j.txt.length ≤ 20000)) := by
      unfold textS
      by_cases h4 : j.kd = 4
      · rw [if_pos h4, if_pos g, h4]; rfl
      · rw [if_neg h4, show (j.kd == 4) = false by simpa using h4]; rfl
    rw [h8, e]
    refine ⟨_, rs_8 s q n hn j dep _ l0 l1 g l2 hj, fun k => ?_⟩
    have h4 : j.kd = 4 := by
      simp only [Bool.and_eq_true, beq_iff_eq] at k
      exact k.1
    unfold textS
    rw [if_pos h4, if_pos g]
  · rw [e]; exact ⟨_, rs_714 s q n hn j dep _ l0 l1 (.inr g) l2 hj, by rw [g]; exact htx 14 (.inr rfl) g⟩
def RSayE (s : ST) (f : Say) (dep : Int) : Prop := ∃ rv, RSayT s f rv dep
theorem rsayE_of {s : ST} {f : Say} {dep : Int} (h : ∀ (q : Nat) (n : NT), s.nodes[q]? = some n → ∀ (j : JT) (c : Nat), JOk j → c ≤ 1000 →
    ∃ v : VT, Told Tryz.prog 69 [s.av, .c (.v (.int .i64 (q : Int))), j.av, .c (.v (.int .i64 dep)), .c (.v (.int .i64 (1000 - (c : Int))))] (.tup [v.av, .c (.v (.int .i64 (lft (f (q : Int) j c).2.1 (1000 - ((f (q : Int) j c).2.2 : Int)))))]) ∧ ((f (q : Int) j c).2.1 = true → v = (f (q : Int) j c).1)) : RSayE s f dep := by
  have h2 : ∀ (a : Int) (j : JT) (c : Nat), ∃ v : VT, 0 ≤ a → a < (s.nodes.length : Int) → JOk j → c ≤ 1000 →
      Told Tryz.prog 69 [s.av, .c (.v (.int .i64 a)), j.av, .c (.v (.int .i64 dep)), .c (.v (.int .i64 (1000 - (c : Int))))] (.tup [v.av, .c (.v (.int .i64 (lft (f a j c).2.1 (1000 - ((f a j c).2.2 : Int)))))]) ∧ ((f a j c).2.1 = true → v = (f a j c).1) := by
    intro a j c
    by_cases g : 0 ≤ a ∧ a < (s.nodes.length : Int) ∧ JOk j ∧ c ≤ 1000
    · obtain ⟨g1, g2, g3, g4⟩ := g
      obtain ⟨q, rfl⟩ : ∃ q : Nat, a = (q : Int) := ⟨a.toNat, by omega⟩
      obtain ⟨n, hn⟩ : ∃ n, s.nodes[q]? = some n := ⟨s.nodes[q], List.getElem?_eq_getElem (by omega)⟩
      obtain ⟨v, h1, h2⟩ := h q n hn j c g3 g4
      exact ⟨v, fun _ _ _ _ => ⟨h1, h2⟩⟩
    · exact ⟨vz 0, fun a1 a2 a3 a4 => absurd ⟨a1, a2, a3, a4⟩ g⟩
  exact ⟨fun a j c => Classical.choose (h2 a j c), fun a j c a1 a2 a3 a4 => Classical.choose_spec (h2 a j c) a1 a2 a3 a4⟩
theorem rsay13_told (s : ST) (hok : SayOk s.nodes) (hsy : SymOk s.nodes) : ∀ d : Nat, d ≤ 20 → RSayE s (sayM s.nodes d) (20 - (d : Int)) := by
  intro d
  induction d with
  | zero =>
    intro _
    refine rsayE_of fun q n hn j c hj hc => ?_
    have hmem := List.mem_of_getElem? hn
    obtain ⟨hsm, ⟨k1, k2⟩, _⟩ := hok.2 n hmem
    have l0 : -1000 ≤ 1000 - (c : Int) := by omega
    have l1 : 1000 - (c : Int) ≤ 1000 := by omega
    rw [sayM]
    simp only [Int.toNat_natCast, hn]
    by_cases h : compK n.kind = true ∨ 1000 < c + 1
    · rw [if_pos h]
      refine ⟨_, rs_no s q n hn j _ _ l0 l1 ?_, fun k => by simp at k⟩
      rcases h with h | h
      · exact .inl ⟨h, by omega⟩
      · exact .inr (by omega)
    · rw [if_neg h]
      exact rsay_leaf s q n hn k1 k2 (fun e => h (.inl e)) (hsy n hmem) hsm j hj c hc _ fun e => h (.inr e)
  | succ d ih =>
    intro hd
    refine rsayE_of fun q n hn j c hj hc => ?_
    have hmem := List.mem_of_getElem? hn
    obtain ⟨hsm, ⟨k1, k2⟩, hkids, hdf, hbr⟩ := hok.2 n hmem
    obtain ⟨rv, hT⟩ : RSayE s (sayM s.nodes d) ((20 - ((d + 1 : Nat) : Int)) + 1) := by
      have := ih (by omega)
      rw [show (20 - ((d + 1 : Nat) : Int)) + 1 = 20 - (d : Int) by omega]
      exact this
    have hcnt := sayM_cnt s.nodes d
    rw [sayM]
    simp only [Int.toNat_natCast, hn]
    by_cases hm : 1000 < c + 1
    · rw [if_pos hm]
      exact ⟨_, rs_no s q n hn j _ _ (by omega) (by omega) (.inr (by omega)), fun k => by simp at k⟩
    rw [if_neg hm]
    by_cases hcm : compK n.kind = true
    rotate_left
    · rw [if_neg hcm]
      exact rsay_leaf s q n hn k1 k2 hcm (hsy n hmem) hsm j hj c hc _ hm
    rw [if_pos hcm]
    have hcat : n.kind = 9 ∨ n.kind = 11 ∨ n.kind = 12 ∨ n.kind = 13 := by
      unfold compK at hcm
      simp only [Bool.or_eq_true, beq_iff_eq] at hcm
      omega
    have hd20 : 20 - ((d + 1 : Nat) : Int) < 20 := by omega
    have hd0 : 0 ≤ 20 - ((d + 1 : Nat) : Int) := by omega
    unfold compS
    by_cases h9 : n.kind = 9
    · rw [if_pos h9]
      refine rs_9 s q n hn j c hm _ h9 hd20 hd0 _ rv hT hcnt hj hsm (fun fd hfd => hkids fd.type ?_) (hdf h9)
      unfold kidsN
      rw [if_pos h9]
      exact List.mem_map.2 ⟨fd, hfd, rfl⟩
    rw [if_neg h9]
    have hit : n.kind = 11 ∨ n.kind = 12 → 0 ≤ n.items ∧ n.items < (s.nodes.length : Int) := fun e => hkids n.items (by
      unfold kidsN
      rw [if_neg h9, if_pos e]
      simp)
    by_cases h11 : n.kind = 11
    · rw [if_pos h11]
      have h := rs_1112 s q n hn j c hm _ (.inl h11) hd20 hd0 _ rv hT hcnt hj (hit (.inl h11)).1 (hit (.inl h11)).2
      rw [h11] at h
      exact h
    rw [if_neg h11]
    by_cases h12 : n.kind = 12
    · rw [if_pos h12]
      have h := rs_1112 s q n hn j c hm _ (.inr h12) hd20 hd0 _ rv hT hcnt hj (hit (.inr h12)).1 (hit (.inr h12)).2
      rw [h12] at h
      exact h
    rw [if_neg h12]
    have h13 : n.kind = 13 := by omega
    obtain ⟨b, hb⟩ := hbr h13
    have hbk := hkids b (by
      unfold kidsN
      rw [if_neg h9, if_neg (by omega), if_pos h13]
      exact List.mem_of_getElem? hb)
    rw [hb]
    refine ⟨_, rs_13 s q n hn j c hm _ h13 hd20 hd0 _ rv hT hj b hb hbk.1 hbk.2, fun k => ?_⟩
    rw [(hT b j (c + 1) hbk.1 hbk.2 hj (by omega)).2 k]

noncomputable def ceq {α : Type} (a b : α) : Bool := @decide (a = b) (Classical.propDecidable _)
theorem ceq_iff {α : Type} (a b : α) : ceq a b = true ↔ a = b := by simp [ceq]
theorem ceq_false {α : Type} (a b : α) : ceq a b = false ↔ a ≠ b := by simp [ceq]
theorem ceq_self {α : Type} (a : α) : ceq a a = true := (ceq_iff a a).2 rfl

theorem ceq_field (a b : FT) : ceq a b = ((((a.name == b.name) && (a.aliases == b.aliases)) && (a.type == b.type)) && (a.has == b.has) && jeq a.dflt b.dflt) := by
  rw [Bool.eq_iff_iff]
  simp only [ceq_iff, Bool.and_eq_true, beq_iff_eq, jeq_iff]
  constructor
  · rintro rfl
    exact ⟨⟨⟨⟨rfl, rfl⟩, rfl⟩, rfl⟩, rfl⟩
  · rintro ⟨⟨⟨⟨h1, h2⟩, h3⟩, h4⟩, h5⟩
    cases a
    cases b
    simp_all
theorem ceq_node (a b : NT) : ceq a b = ((((((((((a.kind == b.kind) && (a.name == b.name)) && (a.aliases == b.aliases)) && ceq a.fields b.fields) && (a.symbols == b.symbols)) && (a.has == b.has)) && (a.dflt == b.dflt)) && (a.size == b.size)) && (a.items == b.items)) && (a.branches == b.branches)) := by
  rw [Bool.eq_iff_iff]
  simp only [ceq_iff, Bool.and_eq_true, beq_iff_eq]
  constructor
  · rintro rfl
    simp
  · rintro ⟨⟨⟨⟨⟨⟨⟨⟨⟨h1, h2⟩, h3⟩, h4⟩, h5⟩, h6⟩, h7⟩, h8⟩, h9⟩, h10⟩
    cases a
    cases b
    simp_all

def foldW (g : Nat → Int) : List FT → Int → Int
  | [], n => n
  | x :: xs, n => foldW g xs (min (n + g x.type.toNat) 1001)
def omg (ns : List NT) : Nat → Nat → Int
  | 0, _ => 1001
  | d + 1, p => foldW (omg ns d) (fieldsAt ns p) 1
theorem foldW_mono {g h : Nat → Int} (hgh : ∀ q, g q ≤ h q) : ∀ (xs : List FT) (n m : Int), n ≤ m → foldW g xs n ≤ foldW h xs m
  | [], n, m, h => h
  | x :: xs, n, m, h => by
    rw [foldW, foldW]
    have := hgh x.type.toNat
    exact foldW_mono hgh xs _ _ (by omega)
theorem foldW_le {g : Nat → Int} : ∀ (xs : List FT) (n : Int), n ≤ 1001 → foldW g xs n ≤ 1001
  | [], n, h => h
  | x :: xs, n, h => by
    rw [foldW]
    exact foldW_le xs _ (by omega)
theorem foldW_ge {g : Nat → Int} (hg : ∀ q, 1 ≤ g q) : ∀ (xs : List FT) (n : Int), n ≤ 1001 → n ≤ foldW g xs n
  | [], n, h => Int.le_refl _
  | x :: xs, n, h => by
    rw [foldW]
    have h1 := hg x.type.toNat
    have := foldW_ge hg xs (min (n + g x.type.toNat) 1001) (by omega)
    omega
theorem foldW_top {g : Nat → Int} (hg : ∀ q, 1 ≤ g q) : ∀ (xs : List FT) (n : Int), 1 ≤ n → n ≤ 1001 → (∃ x ∈ xs, g x.type.toNat = 1001) → foldW g xs n = 1001
  | [], n, _, h, hx => by obtain ⟨x, hx, _⟩ := hx; simp at hx
  | x :: xs, n, h1, h, hx => by
    rw [foldW]
    have hgx := hg x.type.toNat
    by_cases he : g x.type.toNat = 1001
    · have hm : min (n + g x.type.toNat) 1001 = 1001 := by omega
      rw [hm]
      have a := foldW_ge hg xs 1001 (by omega)
      have b := foldW_le (g := g) xs 1001 (by omega)
      omega
    · obtain ⟨y, hy, hy2⟩ := hx
      rcases List.mem_cons.1 hy with rfl | hy
      · exact absurd hy2 he
      · exact foldW_top hg xs _ (by omega) (by omega) ⟨y, hy, hy2⟩
theorem foldW_congr {g h : Nat → Int} : ∀ (xs : List FT) (n : Int), (∀ x ∈ xs, g x.type.toNat = h x.type.toNat) → foldW g xs n = foldW h xs n
  | [], n, _ => rfl
  | x :: xs, n, e => by
    rw [foldW, foldW, e x (by simp)]
    exact foldW_congr xs _ fun y hy => e y (by simp [hy])
theorem omg_range (ns : List NT) : ∀ (d p : Nat), 1 ≤ omg ns d p ∧ omg ns d p ≤ 1001
  | 0, p => ⟨by rw [omg]; decide, by rw [omg]; decide⟩
  | d + 1, p => by
    rw [omg]
    exact ⟨foldW_ge (fun q => (omg_range ns d q).1) _ _ (by decide), foldW_le _ _ (by decide)⟩
theorem omg_dec (ns : List NT) : ∀ (d p : Nat), omg ns (d + 1) p ≤ omg ns d p
  | 0, p => by rw [omg.eq_1]; exact (omg_range ns 1 p).2
  | d + 1, p => by
    rw [omg, omg]
    exact foldW_mono (omg_dec ns d) _ _ _ (Int.le_refl _)
theorem omg_anti (ns : List NT) (d p : Nat) : ∀ e, omg ns (d + e) p ≤ omg ns d p
  | 0 => Int.le_refl _
  | e + 1 => Int.le_trans (omg_dec ns (d + e) p) (omg_anti ns d p e)
theorem omg_one (ns : List NT) (p : Nat) : ∀ (b d : Nat), omg ns d p ≤ (b : Int) → ∃ D, ∀ e, omg ns (D + e) p = omg ns D p
  | 0, d, h => by have := (omg_range ns d p).1; omega
  | b + 1, d, h => by
    by_cases hs : ∀ e, omg ns (d + e) p = omg ns d p
    · exact ⟨d, hs⟩
    · obtain ⟨e, he⟩ := Classical.not_forall.1 hs
      have := omg_anti ns d p e
      exact omg_one ns p b (d + e) (by omega)
theorem omg_all (ns : List NT) : ∀ N : Nat, ∃ D, ∀ p, p < N → ∀ e, omg ns (D + e) p = omg ns D p
  | 0 => ⟨0, fun p h => by omega⟩
  | N + 1 => by
    obtain ⟨D1, h1⟩ := omg_all ns N
    obtain ⟨D2, h2⟩ := omg_one ns N 1001 0 (by rw [omg]; decide)
    refine ⟨max D1 D2, fun p hp e => ?_⟩
    by_cases hpN : p < N
    · have a := h1 p hpN (max D1 D2 - D1 + e)
      have b := h1 p hpN (max D1 D2 - D1)
      rw [show D1 + (max D1 D2 - D1 + e) = max D1 D2 + e by omega] at a
      rw [show D1 + (max D1 D2 - D1) = max D1 D2 by omega] at b
      rw [a, b]
    · obtain rfl : p = N := by omega
      have a := h2 (max D1 D2 - D2 + e)
      have b := h2 (max D1 D2 - D2)
      rw [show D2 + (max D1 D2 - D2 + e) = max D1 D2 + e by omega] at a
      rw [show D2 + (max D1 D2 - D2) = max D1 D2 by omega] at b
      rw [a, b]
structure IsG (ns : List NT) (G : Nat → Int) : Prop where
  range : ∀ p, 1 ≤ G p ∧ G p ≤ 1001
  fix : ∀ p, p < ns.length → G p = foldW G (fieldsAt ns p) 1
  top : ∀ S : Nat → Prop, (∀ q, S q → ∃ x ∈ fieldsAt ns q, S x.type.toNat) → ∀ q, S q → G q = 1001
theorem omg_top (ns : List NT) (S : Nat → Prop) (hS : ∀ q, S q → ∃ x ∈ fieldsAt ns q, S x.type.toNat) : ∀ (d q : Nat), S q → omg ns d q = 1001
  | 0, q, _ => by rw [omg]
  | d + 1, q, h => by
    rw [omg]
    obtain ⟨x, hx, hx2⟩ := hS q h
    exact foldW_top (fun q => (omg_range ns d q).1) _ _ (by decide) (by decide) ⟨x, hx, omg_top ns S hS d _ hx2⟩
theorem exG (ns : List NT) (hr : ∀ p, ∀ x ∈ fieldsAt ns p, x.type.toNat < ns.length) : ∃ G, IsG ns G := by
  obtain ⟨D, hD⟩ := omg_all ns ns.length
  refine ⟨omg ns D, fun p => omg_range ns D p, fun p hp => ?_, fun S hS q hq => omg_top ns S hS D q hq⟩
  have h := hD p hp 1
  rw [← h, omg]
def Edge (ns : List NT) (p q : Nat) : Prop := ∃ x ∈ fieldsAt ns p, x.type.toNat = q
inductive Way (ns : List NT) : Nat → Nat → Prop
  | one {p q : Nat} (h : Edge ns p q) : Way ns p q
  | step {p q r : Nat} (h : Edge ns p q) (w : Way ns q r) : Way ns p r
theorem Way.tail {ns : List NT} {p q r : Nat} (w : Way ns p q) (h : Edge ns q r) : Way ns p r := by
  induction w with
  | one h1 => exact .step h1 (.one h)
  | step h1 _ ih => exact .step h1 (ih h)
theorem IsG.cyc {ns : List NT} {G : Nat → Int} (h : IsG ns G) {p : Nat} (hp : Way ns p p) : G p = 1001 := by
  refine h.top (fun q => Way ns q p) (fun q hq => ?_) p hp
  cases hq with
  | one h1 =>
    obtain ⟨x, hx, he⟩ := h1
    exact ⟨x, hx, by rw [he]; exact hp⟩
  | step h1 w =>
    obtain ⟨x, hx, he⟩ := h1
    exact ⟨x, hx, by rw [he]; exact w⟩
structure Memo (ns : List NT) (G : Nat → Int) (kn : List Int) (p : Nat) : Prop where
  len : kn.length = ns.length
  ok : KnOk kn
  pos : ∀ (j : Nat) (v : Int), kn[j]? = some v → 0 < v → v = G j
  neg : ∀ (j : Nat) (v : Int), kn[j]? = some v → v < 0 → Way ns j p
structure Kept (ns : List NT) (G : Nat → Int) (kn kn' : List Int) : Prop where
  len : kn'.length = ns.length
  ok : KnOk kn'
  pos : ∀ (j : Nat) (v : Int), kn'[j]? = some v → 0 < v → v = G j
  neg : ∀ (j : Nat) (v : Int), kn'[j]? = some v → v < 0 → ∃ u, kn[j]? = some u ∧ u < 0
  cnt : kn'.count 0 ≤ kn.count 0
theorem weighK_spec {ns : List NT} {G : Nat → Int} (hG : IsG ns G) (f : Nat → List Int → Int × List Int) (p : Nat) (c : Nat)
    (hf : ∀ (q : Nat) (kn : List Int), q < ns.length → Memo ns G kn q → kn.count 0 < c → (f q kn).1 = G q ∧ Kept ns G kn (f q kn).2) :
    ∀ (xs : List FT) (n : Int) (kn0 kn : List Int), (∀ x ∈ xs, x.type.toNat < ns.length ∧ Edge ns p x.type.toNat) → Kept ns G kn0 kn → (∀ (j : Nat) (v : Int), kn0[j]? = some v → v < 0 → j = p ∨ Way ns j p) → kn0.count 0 < c →
      (weighK f xs n kn).1 = foldW G xs n ∧ Kept ns G kn0 (weighK f xs n kn).2
  | [], n, kn0, kn, _, hk, _, _ => ⟨rfl, hk⟩
  | x :: xs, n, kn0, kn, hx, hk, hn, hc => by
    rw [weighK, foldW]
    obtain ⟨hxl, hxe⟩ := hx x (by simp)
    have hm : Memo ns G kn x.type.toNat := ⟨hk.len, hk.ok, hk.pos, fun j v hj hv => by
      obtain ⟨u, hu, hu0⟩ := hk.neg j v hj hv
      rcases hn j u hu hu0 with rfl | w
      · exact .one hxe
      · exact w.tail hxe⟩
    obtain ⟨h1, h2⟩ := hf x.type.toNat kn hxl hm (by have := hk.cnt; omega)
    rw [h1]
    exact weighK_spec hG f p c hf xs _ kn0 _ (fun y hy => hx y (by simp [hy])) ⟨h2.len, h2.ok, h2.pos, fun j v hj hv => by
      obtain ⟨u, hu, hu0⟩ := h2.neg j v hj hv
      exact hk.neg j u hu hu0, by have := hk.cnt; have := h2.cnt; omega⟩ hn hc
theorem set_get {kn : List Int} {p j : Nat} {v w : Int} (h : (kn.set p w)[j]? = some v) : (j = p ∧ v = w) ∨ (j ≠ p ∧ kn[j]? = some v) := by
  rw [List.getElem?_set] at h
  split at h
  · rename_i hp
    split at h
    · exact .inl ⟨hp.symm, (Option.some.inj h).symm⟩
    · simp at h
  · rename_i hp
    exact .inr ⟨fun e => hp e.symm, h⟩
theorem weighM_spec {ns : List NT} {G : Nat → Int} (hG : IsG ns G) (hr : ∀ p, ∀ x ∈ fieldsAt ns p, x.type.toNat < ns.length) : ∀ (d p : Nat) (kn : List Int), p < ns.length → Memo ns G kn p → kn.count 0 < d → (weighM ns d p kn).1 = G p ∧ Kept ns G kn (weighM ns d p kn).2
  | 0, p, kn, _, _, h => by omega
  | d + 1, p, kn, hp, hm, hc => by
    obtain ⟨v, hv⟩ : ∃ v, kn[p]? = some v := ⟨kn[p]'(by rw [hm.len]; exact hp), List.getElem?_eq_getElem _⟩
    have hself : Kept ns G kn kn := ⟨hm.len, hm.ok, hm.pos, fun j u hj hu => ⟨u, hj, hu⟩, Nat.le_refl _⟩
    rw [weighM, knAt_of hv]
    split
    · rename_i h0
      exact ⟨(hG.cyc (hm.neg p v hv h0)).symm, hself⟩
    · split
      · rename_i h0 h1
        exact ⟨hm.pos p v hv h1, hself⟩
      · rename_i h0 h1
        obtain rfl : v = 0 := by omega
        have hct := count_set_lt (v := -1) hv (by decide)
        have hk1 : Kept ns G (kn.set p (-1)) (kn.set p (-1)) := ⟨by rw [List.length_set]; exact hm.len, hm.ok.set p (by decide), fun j u hj hu => by
          rcases set_get hj with ⟨_, rfl⟩ | ⟨_, h⟩
          · omega
          · exact hm.pos j u h hu, fun j u hj hu => ⟨u, hj, hu⟩, Nat.le_refl _⟩
        obtain ⟨h2, h3⟩ := weighK_spec hG (weighM ns d) p d (fun q kn hq hmq hcq => weighM_spec hG hr d q kn hq hmq hcq) (fieldsAt ns p) 1 (kn.set p (-1)) (kn.set p (-1)) (fun x hx => ⟨hr p x hx, x, hx, rfl⟩) hk1 (fun j u hj hu => by
          rcases set_get hj with ⟨e, _⟩ | ⟨_, h⟩
          · exact .inl e
          · exact .inr (hm.neg j u h hu)) (by omega)
        simp only []
        rw [h2, ← hG.fix p hp]
        have hGp := hG.range p
        have c2 := count_set_le (kn := (weighK (weighM ns d) (fieldsAt ns p) 1 (kn.set p (-1))).2) p (v := G p) (by omega)
        refine ⟨rfl, by rw [List.length_set]; exact h3.len, h3.ok.set p (by omega), fun j u hj hu => ?_, fun j u hj hu => ?_, by have := h3.cnt; omega⟩
        · rcases set_get hj with ⟨rfl, rfl⟩ | ⟨_, h⟩
          · rfl
          · exact h3.pos j u h hu
        · rcases set_get hj with ⟨_, rfl⟩ | ⟨hne, h⟩
          · omega
          · obtain ⟨w, hw, hw0⟩ := h3.neg j u h hu
            rcases set_get hw with ⟨e, _⟩ | ⟨_, h'⟩
            · exact absurd e hne
            · exact ⟨w, h', hw0⟩
theorem memo_none {ns : List NT} {G : Nat → Int} {kn : List Int} (h1 : kn.length = ns.length) (h2 : KnOk kn) (h3 : ∀ (j : Nat) (v : Int), kn[j]? = some v → 0 < v → v = G j) (h4 : ∀ (j : Nat) (v : Int), kn[j]? = some v → ¬ v < 0) (p : Nat) : Memo ns G kn p :=
  ⟨h1, h2, h3, fun j v hj hv => absurd hv (h4 j v hj)⟩

/-! Names by their last dot. -/
def sp1 : List UInt8 → List UInt8 × List (List UInt8)
  | [] => ([], [])
  | c :: cs => if c = 46 then ([], (sp1 cs).1 :: (sp1 cs).2) else (c :: (sp1 cs).1, (sp1 cs).2)
def okF (s : List UInt8) : Bool := simp1 (sp1 s).1 && (sp1 s).2.all simp1
theorem sp1_none : ∀ t : List UInt8, 46 ∉ t → sp1 t = (t, [])
  | [], _ => rfl
  | c :: cs, h => by
    have hc : c ≠ 46 := fun e => h (e ▸ List.mem_cons_self)
    rw [sp1, if_neg hc, sp1_none cs fun hm => h (List.mem_cons_of_mem _ hm)]
theorem sp1_dot {t : List UInt8} (ht : 46 ∉ t) : ∀ s : List UInt8, sp1 (s ++ 46 :: t) = ((sp1 s).1, (sp1 s).2 ++ [t])
  | [] => by
    have e : sp1 (46 :: t) = ([], (sp1 t).1 :: (sp1 t).2) := by rw [sp1.eq_2, if_pos rfl]
    rw [List.nil_append, e, sp1_none t ht]
    rfl
  | c :: cs => by
    rw [List.cons_append, sp1, sp1, sp1_dot ht cs]
    split
    · rfl
    · rfl
theorem okF_none {t : List UInt8} (h : 46 ∉ t) : okF t = simp1 t := by
  rw [okF, sp1_none t h]
  simp
theorem okF_dot {t : List UInt8} (ht : 46 ∉ t) (s : List UInt8) : okF (s ++ 46 :: t) = (okF s && simp1 t) := by
  rw [okF, sp1_dot ht, okF]
  simp [List.all_append, Bool.and_assoc]
theorem sp1_take : ∀ s : List UInt8, (sp1 s).1 = s.takeWhile (· != 46) ∧ (sp1 s).2 = match s.dropWhile (· != 46) with | [] => [] | _ :: r => (sp1 r).1 :: (sp1 r).2
  | [] => ⟨rfl, rfl⟩
  | c :: cs => by
    obtain ⟨h1, h2⟩ := sp1_take cs
    by_cases h : c = 46
    · subst h
      exact ⟨by simp [sp1], by simp [sp1]⟩
    · have hb : (c != 46) = true := by simp [h]
      rw [sp1, if_neg h, List.takeWhile_cons, List.dropWhile_cons, if_pos hb, if_pos hb]
      exact ⟨by rw [h1], h2⟩
theorem fullF_ok : ∀ (n : Nat) (s : List UInt8), s.length < n → fullF n s = okF s
  | 0, _, h => by omega
  | n + 1, s, h => by
    obtain ⟨h1, h2⟩ := sp1_take s
    rw [fullF, okF, h1, h2]
    congr 1
    have hd : (s.dropWhile (· != 46)).length ≤ s.length := (List.dropWhile_sublist _).length_le
    cases hr : s.dropWhile (· != 46) with
    | nil => rfl
    | cons x r =>
      rw [hr] at hd
      simp at hd
      simp only []
      rw [fullF_ok n r (by omega), List.all_cons]
      rfl
theorem fullM_ok (s : List UInt8) : fullM s = (decide (s.length ≤ 100) && okF s) := by rw [fullM, fullF_ok _ s (by omega)]
def dotA : Nat → Int → List UInt8 → Int
  | _, a, [] => a
  | i, a, c :: cs => dotA (i + 1) (if c = 46 then (i : Int) else a) cs
def dotI (s : List UInt8) : Int := dotA 0 (-1) s
theorem dotA_spec : ∀ (l : List UInt8) (i : Nat) (a : Int), (46 ∉ l ∧ dotA i a l = a) ∨ ∃ j : Nat, j < l.length ∧ l[j]? = some 46 ∧ 46 ∉ l.drop (j + 1) ∧ dotA i a l = ((i + j : Nat) : Int)
  | [], i, a => .inl ⟨by simp, rfl⟩
  | c :: cs, i, a => by
    rw [dotA]
    rcases dotA_spec cs (i + 1) (if c = 46 then (i : Int) else a) with ⟨h1, h2⟩ | ⟨j, h0, h1, h2, h3⟩
    · by_cases hc : c = 46
      · rw [if_pos hc] at h2 ⊢
        exact .inr ⟨0, by simp, by simp [hc], by simpa using h1, by rw [h2]; simp⟩
      · rw [if_neg hc] at h2 ⊢
        refine .inl ⟨?_, h2⟩
        intro hm
        rcases List.mem_cons.1 hm with e | hm
        · exact hc e.symm
        · exact h1 hm
    · exact .inr ⟨j + 1, by simp; omega, by simpa using h1, by simpa using h2, by rw [h3]; congr 1; omega⟩
theorem dotI_spec (l : List UInt8) : (46 ∉ l ∧ dotI l = -1) ∨ ∃ j : Nat, j < l.length ∧ dotI l = (j : Int) ∧ l = l.take j ++ 46 :: l.drop (j + 1) ∧ 46 ∉ l.drop (j + 1) := by
  rcases dotA_spec l 0 (-1) with h | ⟨j, h0, h1, h2, h3⟩
  · exact .inl h
  · refine .inr ⟨j, h0, by rw [dotI, h3]; simp, ?_, h2⟩
    obtain ⟨hlt, he⟩ := List.getElem?_eq_some_iff.1 h1
    conv => lhs; rw [← List.take_append_drop j l, List.drop_eq_getElem_cons hlt, he]
/-! Nodes that are met. -/
def metM (ns : List NT) (d p : Nat) : Int := if (walkM ns d p).1 = true then ((walkM ns d p).2 : Int) else -1
/-! Weights by rounds. -/
def wAt (l : List Int) (q : Nat) : Int := match l[q]? with | some n => n | none => 1
theorem wAt_of {l : List Int} {p : Nat} {v : Int} (h : l[p]? = some v) : wAt l p = v := by rw [wAt, h]
def wstep (ns : List NT) (l : List Int) : List Int := (List.range ns.length).map fun p => foldW (wAt l) (fieldsAt ns p) 1
def WOk (ns : List NT) (l : List Int) : Prop := l.length = ns.length ∧ (∀ x ∈ l, 1 ≤ x ∧ x ≤ 1001) ∧ ∀ p, p < ns.length → wAt l p ≤ foldW (wAt l) (fieldsAt ns p) 1
theorem wstep_at {ns : List NT} {l : List Int} {p : Nat} (h : p < ns.length) : (wstep ns l)[p]? = some (foldW (wAt l) (fieldsAt ns p) 1) := by
  unfold wstep
  rw [List.getElem?_map, List.getElem?_range h]
  rfl
theorem wAt_step {ns : List NT} {l : List Int} {p : Nat} (h : p < ns.length) : wAt (wstep ns l) p = foldW (wAt l) (fieldsAt ns p) 1 := wAt_of (wstep_at h)
theorem wAt_range {l : List Int} (h : ∀ x ∈ l, 1 ≤ x ∧ x ≤ 1001) (q : Nat) : 1 ≤ wAt l q ∧ wAt l q ≤ 1001 := by
  unfold wAt
  split
  · rename_i n hn
    exact h n (List.mem_of_getElem? hn)
  · exact ⟨by decide, by decide⟩
theorem wok_one (ns : List NT) : WOk ns (List.replicate ns.length 1) := by
  have hr : ∀ x ∈ List.replicate ns.length (1 : Int), 1 ≤ x ∧ x ≤ 1001 := fun x hx => by
    obtain rfl := (List.mem_replicate.1 hx).2
    exact ⟨by decide, by decide⟩
  refine ⟨by simp, hr, fun p hp => ?_⟩
  have : wAt (List.replicate ns.length 1) p = 1 := wAt_of (by rw [List.getElem?_replicate, if_pos hp])
  rw [this]
  exact foldW_ge (fun q => (wAt_range hr q).1) _ _ (by decide)
theorem wok_step {ns : List NT} {l : List Int} (h : WOk ns l) : WOk ns (wstep ns l) := by
  obtain ⟨h1, h2, h3⟩ := h
  have hr : ∀ x ∈ wstep ns l, 1 ≤ x ∧ x ≤ 1001 := fun x hx => by
    unfold wstep at hx
    obtain ⟨p, _, rfl⟩ := List.mem_map.1 hx
    exact ⟨foldW_ge (fun q => (wAt_range h2 q).1) _ _ (by decide), foldW_le _ _ (by decide)⟩
  refine ⟨by simp [wstep], hr, fun p hp => ?_⟩
  rw [wAt_step hp]
  refine foldW_mono (fun q => ?_) _ _ _ (Int.le_refl _)
  by_cases hq : q < ns.length
  · rw [wAt_step hq]
    exact h3 q hq
  · have e1 : wAt l q = 1 := by rw [wAt, List.getElem?_eq_none (by omega)]
    have e2 : wAt (wstep ns l) q = 1 := by rw [wAt, List.getElem?_eq_none (by simp [wstep]; omega)]
    omega
def wlack : List Int → Nat
  | [] => 0
  | x :: xs => (1001 - x).toNat + wlack xs
theorem wlack_le : ∀ (l l' : List Int), l.length = l'.length → (∀ p, wAt l p ≤ wAt l' p) → wlack l' ≤ wlack l
  | [], [], _, _ => Nat.le_refl _
  | x :: xs, y :: ys, hl, h => by
    have h0 := h 0
    have := wlack_le xs ys (by simpa using hl) fun p => h (p + 1)
    simp [wAt] at h0
    simp only [wlack]
    omega
theorem wlack_lt : ∀ (l l' : List Int), l.length = l'.length → (∀ p, wAt l p ≤ wAt l' p) → (∀ x ∈ l', x ≤ 1001) → l ≠ l' → wlack l' < wlack l
  | [], [], _, _, _, h => absurd rfl h
  | x :: xs, y :: ys, hl, h, hb, hne => by
    have h0 := h 0
    have hy := hb y (by simp)
    have hle := wlack_le xs ys (by simpa using hl) fun p => h (p + 1)
    simp [wAt] at h0
    simp only [wlack]
    by_cases hx : x = y
    · have := wlack_lt xs ys (by simpa using hl) (fun p => h (p + 1)) (fun z hz => hb z (by simp [hz])) fun e => hne (by rw [hx, e])
      omega
    · omega
theorem wstep_lack {ns : List NT} {l : List Int} (h : WOk ns l) (hne : wstep ns l ≠ l) : wlack (wstep ns l) < wlack l := by
  refine wlack_lt l _ (by simp [wstep, h.1]) (fun p => ?_) (fun x hx => ((wok_step h).2.1 x hx).2) fun e => hne e.symm
  by_cases hp : p < ns.length
  · rw [wAt_step hp]
    exact h.2.2 p hp
  · rw [wAt, List.getElem?_eq_none (by have := h.1; omega), wAt, List.getElem?_eq_none (by simp [wstep]; omega)]
    exact Int.le_refl _
theorem foldW_lt {g : Nat → Int} (hg : ∀ q, 1 ≤ g q) : ∀ (xs : List FT) (n : Int), 1 ≤ n → n ≤ 1001 → foldW g xs n < 1001 → ∀ x ∈ xs, g x.type.toNat < foldW g xs n
  | [], n, _, _, _, x, hx => by simp at hx
  | y :: ys, n, h1, h2, h, x, hx => by
    rw [foldW] at h ⊢
    have hgy := hg y.type.toNat
    rcases List.mem_cons.1 hx with rfl | hx
    · have := foldW_ge hg ys (min (n + g x.type.toNat) 1001) (by omega)
      omega
    · exact foldW_lt hg ys _ (by omega) (by omega) h x hx
theorem fix_le {ns : List NT} {G H : Nat → Int} (hG : ∀ p, 1 ≤ G p ∧ G p ≤ 1001) (hH : ∀ p, 1 ≤ H p ∧ H p ≤ 1001) (fG : ∀ p, p < ns.length → G p = foldW G (fieldsAt ns p) 1) (fH : ∀ p, p < ns.length → H p = foldW H (fieldsAt ns p) 1)
    (hr : ∀ p, ∀ x ∈ fieldsAt ns p, x.type.toNat < ns.length) : ∀ (m : Nat) (p : Nat), p < ns.length → G p < 1001 → G p ≤ (m : Int) → H p = G p
  | 0, p, _, _, h => by have := (hG p).1; omega
  | m + 1, p, hp, h1, h2 => by
    rw [fG p hp] at h1 h2 ⊢
    rw [fH p hp]
    refine foldW_congr _ _ fun x hx => ?_
    have := foldW_lt (fun q => (hG q).1) (fieldsAt ns p) 1 (by decide) (by decide) h1 x hx
    exact fix_le hG hH fG fH hr m _ (hr p x hx) (by omega) (by omega)
theorem fix_one {ns : List NT} {G H : Nat → Int} (hG : ∀ p, 1 ≤ G p ∧ G p ≤ 1001) (hH : ∀ p, 1 ≤ H p ∧ H p ≤ 1001) (fG : ∀ p, p < ns.length → G p = foldW G (fieldsAt ns p) 1) (fH : ∀ p, p < ns.length → H p = foldW H (fieldsAt ns p) 1)
    (hr : ∀ p, ∀ x ∈ fieldsAt ns p, x.type.toNat < ns.length) (p : Nat) (hp : p < ns.length) : H p = G p := by
  by_cases h1 : G p < 1001
  · exact fix_le hG hH fG fH hr 1001 p hp h1 (hG p).2
  · by_cases h2 : H p < 1001
    · exact (fix_le hH hG fH fG hr 1001 p hp h2 (hH p).2).symm
    · have := (hG p).2
      have := (hH p).2
      omega
theorem wok_G {ns : List NT} {G : Nat → Int} {l : List Int} (hG : IsG ns G) (hr : ∀ p, ∀ x ∈ fieldsAt ns p, x.type.toNat < ns.length) (h : WOk ns l) (he : wstep ns l = l) (p : Nat) (hp : p < ns.length) : l[p]? = some (G p) := by
  have hlt : p < l.length := by rw [h.1]; exact hp
  have e : l[p]? = some (wAt l p) := by
    rw [List.getElem?_eq_getElem hlt]
    congr 1
    exact (wAt_of (List.getElem?_eq_getElem hlt)).symm
  rw [e]
  congr 1
  exact fix_one hG.range (fun q => wAt_range h.2.1 q) hG.fix (fun q hq => by rw [← wAt_step hq, he]) hr p hp
theorem rightL_eq {ns : List NT} {G : Nat → Int} (hG : IsG ns G) (hr : ∀ p, ∀ x ∈ fieldsAt ns p, x.type.toNat < ns.length) : ∀ (r : List NT) (p : Nat) (kn : List Int), p + r.length = ns.length → kn.length = ns.length → KnOk kn → (∀ (j : Nat) (v : Int), kn[j]? = some v → 0 < v → v = G j) → (∀ (j : Nat) (v : Int), kn[j]? = some v → ¬ v < 0) →
    (rightL ns r p kn = true ↔ (∀ n ∈ r, nodeM ns n = true) ∧ ∀ i, p ≤ i → i < ns.length → G i ≤ 1000)
  | [], p, kn, hl, _, _, _, _ => by
    simp at hl
    simp only [rightL, true_iff]
    exact ⟨by simp, fun i h1 h2 => by omega⟩
  | n :: r, p, kn, hl, h1, h2, h3, h4 => by
    rw [rightL]
    simp only [Bool.and_eq_true, decide_eq_true_eq]
    simp at hl
    have hc := List.count_le_length (a := (0 : Int)) (l := kn)
    obtain ⟨e, hk⟩ := weighM_spec hG hr (ns.length + 1) p kn (by omega) (memo_none h1 h2 h3 h4 p) (by omega)
    rw [e, rightL_eq hG hr r (p + 1) _ (by omega) hk.len hk.ok hk.pos (fun j v hj hv => by
        obtain ⟨u, hu, hu0⟩ := hk.neg j v hj hv
        exact h4 j u hu hu0)]
    constructor
    · rintro ⟨a, b, c, d⟩
      refine ⟨fun m hm => ?_, fun i hi hi2 => ?_⟩
      · rcases List.mem_cons.1 hm with rfl | hm
        · exact a
        · exact c m hm
      · by_cases hip : i = p
        · rw [hip]; exact b
        · exact d i (by omega) hi2
    · rintro ⟨a, b⟩
      exact ⟨a n (by simp), b p (Nat.le_refl _) (by omega), fun m hm => a m (by simp [hm]), fun i hi hi2 => b i (by omega) hi2⟩
theorem rightM_eq {s : ST} {G : Nat → Int} (hG : IsG s.nodes G) (hr : ∀ p, ∀ x ∈ fieldsAt s.nodes p, x.type.toNat < s.nodes.length) :
    rightM s = true ↔ orderedM s = true ∧ (∀ n ∈ s.nodes, nodeM s.nodes n = true) ∧ (∀ i, i < s.nodes.length → G i ≤ 1000) ∧ (namesM s.nodes).Nodup := by
  have hz : ∀ (j : Nat) (v : Int), (List.replicate s.nodes.length (0 : Int))[j]? = some v → v = 0 := fun j v hj => (List.mem_replicate.1 (List.mem_of_getElem? hj)).2
  have h := rightL_eq hG hr s.nodes 0 (List.replicate s.nodes.length 0) (by simp) (by simp) (fun x hx => by obtain rfl := (List.mem_replicate.1 hx).2; decide) (fun j v hj hv => by have := hz j v hj; omega) (fun j v hj => by have := hz j v hj; omega)
  unfold rightM diffM
  simp only [Bool.and_eq_true, decide_eq_true_eq, h, List.all_eq_true]
  constructor
  · rintro ⟨a, ⟨b, c⟩, d, e⟩
    exact ⟨a, b, fun i hi => c i (Nat.zero_le _) hi, e⟩
  · rintro ⟨a, b, c, d⟩
    refine ⟨a, ⟨b, fun i _ hi => c i hi⟩, fun x hx => ?_, d⟩
    obtain ⟨n, hn, rfl⟩ := List.mem_map.1 hx
    obtain ⟨hn1, hn2⟩ := List.mem_filter.1 hn
    have := b n hn1
    unfold nodeM at this
    simp only [Bool.and_eq_true] at this
    have h2 := this.2.1
    rw [hn2] at h2
    simp only [Bool.not_true, Bool.false_or, Bool.and_eq_true] at h2
    exact h2.1

set_option maxRecDepth 100000 in
set_option maxHeartbeats 800000 in
theorem rletter9_told (c : UInt8) : Told Tryz.prog 264 [.c (.v (.int .u8 (c.toNat : Int)))] (.c (.v (.bool (isLet c)))) := by
  obtain ⟨V, hV⟩ : ∃ V, V = isLet c := ⟨_, rfl⟩
  rw [← hV]
  obtain ⟨y, hy⟩ : ∃ y : Int, y = (c.toNat : Int) := ⟨_, rfl⟩
  rw [← hy]
  have hv : V = ((decide (y ≥ 97) && decide (y ≤ 122)) || ((decide (y ≥ 65) && decide (y ≤ 90)) || (y == 95))) := by
    have e : (y == 95) = decide (c.toNat = 95) := by
      rw [hy]
      by_cases h : c.toNat = 95
      · simp [h]
      · have : ¬ ((c.toNat : Int) = 95) := by omega
        simp [h, this]
    rw [hV, isLet, e, hy]
    congr 1
    · congr 1 <;> simp <;> omega
    · congr 1
      congr 1 <;> simp <;> omega
  clear hV hy
  replace hv := Lib.hid hv
  refine VC.told ent_264 Tryz.func264 rfl Tryz.ntmps264 (by simp) (by first | rfl | simp [AV.pureB, AV.pureL, pureL_c, pures]) (by first | rfl | simp [AV.pureB, AV.pureL, pureL_c, pures]) fun hb => ?_
  clear hb
  (repeat (first | refine pass ?_ | refine VC.region (by rfl) (by rfl) ?_ | (refine AO.step fun K hK => ?_; simp only [List.append_assoc, go_sem, Int.reduceBEq, Int.reduceLE, Int.reduceLT, Int.reduceNeg, Nat.reduceAdd, Nat.reduceEqDiff, Nat.reduceLT, Nat.reduceLeDiff, Nat.reduceMul, Nat.reduceSub, reduceCtorEq, ↓reduceIte]; (first | refine gsel_skip ?_ | refine gsel_go ?_ | skip); (first | refine hK _ _ _ ?_ | refine ⟨by first | omega | exact ⟨_, rfl, rfl⟩ | exact fun _ => ⟨_, rfl, rfl⟩ | (intro h; simp only [List.append_assoc, h, true_and]; omega) | (clear hK; intro h; simp_all <;> omega), hK _ _ _ ?_⟩); clear hK K) | refine VC.draw mixP (by rfl) (by rfl) ?_ | refine ⟨okd_of (by kernel_rfl), ?_⟩ | refine BQ.other (by decide) ?_ | refine VC.seq ?_ | refine AO.nil ?_ | refine VC.block ?_))
  refine ⟨by first | exact .inr rfl | exact .inl rfl, ?_⟩; rw [Tryz.results264]; simp only [resOk, resV, go_sem, simprocAttr]
  have hv2 : V = ((decide (y ≥ 97) && decide (y ≤ 122)) || (decide (y ≥ 65) && decide (y ≤ 90)) || (y == 95)) := by rw [hv.out, Bool.or_assoc]
  rw [hv2]
  exact .c _
set_option maxRecDepth 100000 in
set_option maxHeartbeats 800000 in
theorem rdigit9_told (c : UInt8) : Told Tryz.prog 265 [.c (.v (.int .u8 (c.toNat : Int)))] (.c (.v (.bool (isDig c)))) := by
  have e : isDig c = (decide ((c.toNat : Int) ≥ 48) && decide ((c.toNat : Int) ≤ 57)) := by
    unfold isDig
    congr 1 <;> simp <;> omega
  rw [e]
  refine VC.told ent_265 Tryz.func265 rfl Tryz.ntmps265 (by simp) (by first | rfl | simp [AV.pureB, AV.pureL, pureL_c, pures]) (by first | rfl | simp [AV.pureB, AV.pureL, pureL_c, pures]) fun hb => ?_
  clear hb
  refine walkG ?_
  refine ⟨by first | exact .inr rfl | exact .inl rfl, ?_⟩; rw [Tryz.results265]; simp only [resOk, resV, go_sem, simprocAttr]
  exact .c _
set_option maxRecDepth 100000 in
set_option maxHeartbeats 800000 in
theorem rsimple_told (s : List UInt8) (hs : s.length ≤ 1000000000) : Told Tryz.prog 234 [.c (.v (.string (str s)))] (.c (.v (.bool (simpleM s)))) := by
  obtain ⟨V, hV⟩ : ∃ V, V = simpleM s := ⟨_, rfl⟩
  rw [← hV]
  cases s with
  | nil =>
    obtain rfl : V = false := by rw [hV]; rfl
    refine VC.told ent_234 Tryz.func234 rfl Tryz.ntmps234 (by simp) (by first | rfl | simp [AV.pureB, AV.pureL, pureL_c, pures]) (by first | rfl | simp [AV.pureB, AV.pureL, pureL_c, pures]) fun hb => ?_
    clear hb
    refine walkBF (@str_size) ?_
    refine ⟨by first | exact .inr rfl | exact .inl rfl, ?_⟩; rw [Tryz.results234]; simp only [resOk, resV, go_sem, simprocAttr]
    exact .c _
  | cons c cs =>
  obtain ⟨l, hll⟩ : ∃ l, l = c :: cs := ⟨_, rfl⟩
  have hpos : 0 < l.length := by rw [hll]; simp
  have e2 : ((l.length : Int) == 0) = false := beq_eq_false_iff_ne.2 (by omega)
  have hc0 : l[0]? = some c := by rw [hll]; rfl
  rw [← hll] at hV hs ⊢
  by_cases hl : l.length ≤ 100
  rotate_left
  · obtain rfl : V = false := by rw [hV, simpleM, decide_eq_false hl]; rfl
    have e1 : decide ((l.length : Int) > 100) = true := by simp; omega
    refine VC.told ent_234 Tryz.func234 rfl Tryz.ntmps234 (by simp) (by first | rfl | simp [AV.pureB, AV.pureL, pureL_c, pures]) (by first | rfl | simp [AV.pureB, AV.pureL, pureL_c, pures]) fun hb => ?_
    clear hb
    refine walkBF (And.intro @str_size (And.intro e1 e2)) ?_
    refine ⟨by first | exact .inr rfl | exact .inl rfl, ?_⟩; rw [Tryz.results234]; simp only [resOk, resV, go_sem, simprocAttr]
    exact .c _
  have e1 : decide ((l.length : Int) > 100) = false := by simp; omega
  have hL := rletter9_told c
  have hv : V = (isLet c && l.all fun c => isLet c || isDig c) := by
    rw [hV, simpleM, decide_eq_true hl, Bool.true_and, hll]
    simp only [simp1, List.all_cons]
    cases isLet c <;> simp
  clear hV hll
  obtain ⟨bl, hbl⟩ : ∃ b, b = isLet c := ⟨_, rfl⟩
  rw [← hbl] at hL hv
  refine VC.told ent_234 Tryz.func234 rfl Tryz.ntmps234 (by simp) (by first | rfl | simp [AV.pureB, AV.pureL, pureL_c, pures]) (by first | rfl | simp [AV.pureB, AV.pureL, pureL_c, pures]) fun hb => ?_
  clear hb
  refine walkGF (And.intro @str_size (And.intro e1 (And.intro e2 (And.intro @str_dl hc0)))) ?_
  refine walkC (hL) ?_
  refine walkG ?_
  refine VC.cond (by rfl) (by trivial) (fun hc => ?_) (fun hc => ?_)
  · obtain rfl : V = false := by
      rw [hv]
      have : bl = false := by simpa using hc
      rw [this]
      rfl
    refine walkG ?_
    refine ⟨by first | exact .inr rfl | exact .inl rfl, ?_⟩; rw [Tryz.results234]; simp only [resOk, resV, go_sem, simprocAttr]
    exact .c _
  have hbt : bl = true := by simpa using hc
  subst hbt
  rw [Bool.true_and] at hv
  refine walkGF (@str_size) ?_
  refine VC.loop (ι := {i : Nat // i ≤ l.length ∧ ∀ (j : Nat) (c : UInt8), j < i → l[j]? = some c → (isLet c || isDig c) = true})
    (fun q => [(0, .c (.v (.string (str l)))), (3, .c (.v (.int .i64 (q.1 : Int))))]) (fun _ => []) 800 (fun q => l.length - q.1) ⟨0, Nat.zero_le _, fun j c h => by omega⟩ ?_ ?_
  · simp only [Weak, eq_self, used_is, sc_any, sc_c, sc_pp, sc_ref, sc_row, sc_agg, sc_fn, ScL, some_imp, List.forall_mem_map, go_sem, Int.reduceBEq, Int.reduceLE, Int.reduceLT, Int.reduceNeg, Nat.reduceAdd, Nat.reduceEqDiff, Nat.reduceLT, Nat.reduceLeDiff, Nat.reduceMul, Nat.reduceSub, reduceCtorEq, ↓reduceIte]
  rintro ⟨i, hi, ht⟩
  simp only []
  refine walkGF (@str_size) ?_
  refine VC.cond (by rfl) (by trivial) (fun hc => ?_) (fun hc => ?_)
  · have hlt : i < l.length := by simp at hc; omega
    obtain ⟨d, hx⟩ : ∃ d, l[i]? = some d := ⟨l[i], List.getElem?_eq_getElem hlt⟩
    have hw : IntKind.i64.wrap ((i : Int) + 1) = (i : Int) + 1 := wrap64_id (by omega) (by omega)
    have hL := rletter9_told d
    have hD := rdigit9_told d
    obtain ⟨b1, hb1⟩ : ∃ b, b = isLet d := ⟨_, rfl⟩
    obtain ⟨b2, hb2⟩ : ∃ b, b = isDig d := ⟨_, rfl⟩
    rw [← hb1] at hL
    rw [← hb2] at hD
    refine walkGF (And.intro @str_size (And.intro @str_dl hx)) ?_
    refine walkC (hL) ?_
    refine walkGF (And.intro @str_size (And.intro @str_dl hx)) ?_
    refine walkD (hD) ?_
    refine walkG ?_
    refine VC.cond (by rfl) (by trivial) (fun hc2 => ?_) (fun hc2 => ?_)
    · have hf : V = false := by
        rw [hv, List.all_eq_false]
        refine ⟨d, List.mem_of_getElem? hx, ?_⟩
        rw [← hb1, ← hb2]
        cases b1 <;> cases b2 <;> simp at hc2 ⊢
      subst hf
      refine walkG ?_
      refine ⟨by first | exact .inr rfl | exact .inl rfl, ?_⟩; rw [Tryz.results234]; simp only [resOk, resV, go_sem, simprocAttr]
      exact .c _
    · refine walkGF (hw) ?_
      refine .next ⟨i + 1, by omega, ?_⟩ ?_ (by simp only []; omega)
      · intro j e hj he
        by_cases hji : j < i
        · exact ht j e hji he
        · obtain rfl : j = i := by omega
          rw [hx] at he
          obtain rfl := Option.some.inj he
          rw [← hb1, ← hb2]
          cases b1 <;> cases b2 <;> simp at hc2 ⊢
      simp only [Weak, eq_self, used_is, sc_any, sc_c, sc_pp, sc_ref, sc_row, sc_agg, sc_fn, ScL, some_imp, List.forall_mem_map, go_sem, Int.reduceBEq, Int.reduceLE, Int.reduceLT, Int.reduceNeg, Nat.reduceAdd, Nat.reduceEqDiff, Nat.reduceLT, Nat.reduceLeDiff, Nat.reduceMul, Nat.reduceSub, reduceCtorEq, ↓reduceIte]
      try exact cI (by omega)
  · have hie : i = l.length := by simp at hc; omega
    have hf : V = true := by
      rw [hv, List.all_eq_true]
      intro e he
      obtain ⟨j, hj⟩ := List.getElem?_of_mem he
      exact ht j e (by have := (List.getElem?_eq_some_iff.1 hj).1; omega) hj
    subst hf
    refine walkG ?_
    refine ⟨by first | exact .inr rfl | exact .inl rfl, ?_⟩; rw [Tryz.results234]; simp only [resOk, resV, go_sem, simprocAttr]
    exact .c _
set_option maxRecDepth 100000 in
set_option maxHeartbeats 800000 in
theorem rdot_told (s : List UInt8) (hs : s.length ≤ 1000000000) : Told Tryz.prog 207 [.c (.v (.string (str s)))] (.c (.v (.int .i64 (dotI s)))) := by
  obtain ⟨V, hV⟩ : ∃ V, V = dotI s := ⟨_, rfl⟩
  rw [← hV]
  unfold dotI at hV
  refine VC.told ent_207 Tryz.func207 rfl Tryz.ntmps207 (by simp) (by first | rfl | simp [AV.pureB, AV.pureL, pureL_c, pures]) (by first | rfl | simp [AV.pureB, AV.pureL, pureL_c, pures]) fun hb => ?_
  clear hb
  refine walkG ?_
  refine VC.loop (ι := {x : Nat × Int // x.1 ≤ s.length ∧ dotA x.1 x.2 (s.drop x.1) = V})
    (fun q => [(0, .c (.v (.string (str s)))), (3, .c (.v (.int .i64 q.1.2))), (4, .c (.v (.int .i64 (q.1.1 : Int))))]) (fun _ => []) 800 (fun q => s.length - q.1.1) ⟨(0, -1), Nat.zero_le _, by simpa using hV.symm⟩ ?_ ?_
  · simp only [Weak, eq_self, used_is, sc_any, sc_c, sc_pp, sc_ref, sc_row, sc_agg, sc_fn, ScL, some_imp, List.forall_mem_map, go_sem, Int.reduceBEq, Int.reduceLE, Int.reduceLT, Int.reduceNeg, Nat.reduceAdd, Nat.reduceEqDiff, Nat.reduceLT, Nat.reduceLeDiff, Nat.reduceMul, Nat.reduceSub, reduceCtorEq, ↓reduceIte]
  rintro ⟨⟨i, a⟩, hi, hv⟩
  simp only [] at hi hv ⊢
  refine walkGF (@str_size) ?_
  refine VC.cond (by rfl) (by trivial) (fun hc => ?_) (fun hc => ?_)
  · have hlt : i < s.length := by simp at hc; omega
    obtain ⟨d, hx⟩ : ∃ d, s[i]? = some d := ⟨s[i], List.getElem?_eq_getElem hlt⟩
    have hw : IntKind.i64.wrap ((i : Int) + 1) = (i : Int) + 1 := wrap64_id (by omega) (by omega)
    rw [(List.drop_eq_getElem_cons hlt).trans (by rw [(List.getElem?_eq_some_iff.1 hx).2] : _ = d :: s.drop (i + 1)), dotA] at hv
    refine walkGF (And.intro @str_size (And.intro @str_dl hx)) ?_
    refine VC.cond (by rfl) (by trivial) (fun hc2 => ?_) (fun hc2 => ?_)
    · have hd : d = 46 := by
        simp at hc2
        exact UInt8.toNat_inj.1 (by simp; omega)
      rw [if_pos hd] at hv
      refine walkGF (hw) ?_
      refine .next ⟨(i + 1, (i : Int)), by simp only []; omega, hv⟩ ?_ (by simp only []; omega)
      simp only [Weak, eq_self, used_is, sc_any, sc_c, sc_pp, sc_ref, sc_row, sc_agg, sc_fn, ScL, some_imp, List.forall_mem_map, go_sem, Int.reduceBEq, Int.reduceLE, Int.reduceLT, Int.reduceNeg, Nat.reduceAdd, Nat.reduceEqDiff, Nat.reduceLT, Nat.reduceLeDiff, Nat.reduceMul, Nat.reduceSub, reduceCtorEq, ↓reduceIte]
      try exact cI (by omega)
    · have hd : d ≠ 46 := by
        rintro rfl
        simp at hc2
      rw [if_neg hd] at hv
      refine walkGF (hw) ?_
      refine .next ⟨(i + 1, a), by simp only []; omega, hv⟩ ?_ (by simp only []; omega)
      simp only [Weak, eq_self, used_is, sc_any, sc_c, sc_pp, sc_ref, sc_row, sc_agg, sc_fn, ScL, some_imp, List.forall_mem_map, go_sem, Int.reduceBEq, Int.reduceLE, Int.reduceLT, Int.reduceNeg, Nat.reduceAdd, Nat.reduceEqDiff, Nat.reduceLT, Nat.reduceLeDiff, Nat.reduceMul, Nat.reduceSub, reduceCtorEq, ↓reduceIte]
      try exact cI (by omega)
  · have hie : i = s.length := by simp at hc; omega
    have hf : V = a := by rw [← hv, hie, List.drop_length, dotA]
    subst hf
    refine walkG ?_
    refine ⟨by first | exact .inr rfl | exact .inl rfl, ?_⟩; rw [Tryz.results207]; simp only [resOk, resV, go_sem, simprocAttr]
    exact .c _
set_option maxRecDepth 100000 in
set_option maxHeartbeats 800000 in
theorem rfull_told (s : List UInt8) (hs : s.length ≤ 1000000000) : Told Tryz.prog 184 [.c (.v (.string (str s)))] (.c (.v (.bool (fullM s)))) := by
  obtain ⟨V, hV⟩ : ∃ V, V = fullM s := ⟨_, rfl⟩
  rw [← hV]
  rw [fullM_ok] at hV
  refine VC.told ent_184 Tryz.func184 rfl Tryz.ntmps184 (by simp) (by first | rfl | simp [AV.pureB, AV.pureL, pureL_c, pures]) (by first | rfl | simp [AV.pureB, AV.pureL, pureL_c, pures]) fun hb => ?_
  clear hb
  refine walkGF (@str_size) ?_
  refine VC.cond (by rfl) (by trivial) (fun hc => ?_) (fun hc => ?_)
  · have hf : V = false := by
      have : ¬ (s.length ≤ 100) := by simp at hc; omega
      rw [hV]
      simp [this]
    subst hf
    refine walkG ?_
    refine ⟨by first | exact .inr rfl | exact .inl rfl, ?_⟩; rw [Tryz.results184]; simp only [resOk, resV, go_sem, simprocAttr]
    exact .c _
  have hl : s.length ≤ 100 := by simp at hc; omega
  have hv : okF s = V := by rw [hV]; simp [hl]
  clear hV hc
  refine walkG ?_
  refine VC.loop (ι := {l : List UInt8 // l.length ≤ 100 ∧ okF l = V}) (fun q => [(0, .c (.v (.string (str q.1))))]) (fun _ => []) 800 (fun q => q.1.length) ⟨s, hl, hv⟩ ?_ ?_
  · simp only [Weak, eq_self, used_is, sc_any, sc_c, sc_pp, sc_ref, sc_row, sc_agg, sc_fn, ScL, some_imp, List.forall_mem_map, go_sem, Int.reduceBEq, Int.reduceLE, Int.reduceLT, Int.reduceNeg, Nat.reduceAdd, Nat.reduceEqDiff, Nat.reduceLT, Nat.reduceLeDiff, Nat.reduceMul, Nat.reduceSub, reduceCtorEq, ↓reduceIte]
  rintro ⟨l, hl, hv⟩
  simp only []
  have hD := rdot_told l (by omega)
  refine walkG ?_
  refine walkC (hD) ?_
  rcases dotI_spec l with ⟨h1, h2⟩ | ⟨j, hj, h2, h3, h4⟩
  · rw [okF_none h1] at hv
    have hS := rsimple_told l (by omega)
    have hsv : simpleM l = V := by rw [simpleM, ← hv]; simp [hl]
    rw [hsv] at hS
    rw [h2] at hD ⊢
    refine walkB ?_
    refine walkC (hS) ?_
    refine walkG ?_
    refine ⟨by first | exact .inr rfl | exact .inl rfl, ?_⟩; rw [Tryz.results184]; simp only [resOk, resV, go_sem, simprocAttr]
    exact .c _
  · rw [h2] at hD ⊢
    obtain ⟨t, htt⟩ : ∃ t, t = l.drop (j + 1) := ⟨_, rfl⟩
    have htl : t.length ≤ 100 := by rw [htt, List.length_drop]; omega
    have hS := rsimple_told t (by omega)
    have hsv : simpleM t = simp1 t := by rw [simpleM]; simp [htl]
    rw [hsv] at hS
    have hv2 : (okF (l.take j) && simp1 t) = V := by
      rw [← okF_dot (by rw [htt]; exact h4), htt, ← h3]
      exact hv
    obtain ⟨b, hbb⟩ : ∃ b, b = simp1 t := ⟨_, rfl⟩
    rw [← hbb] at hS hv2
    have hd : decide ((j : Int) ≥ 0) = true := by simp
    have hw : IntKind.i64.wrap ((j : Int) + 1) = (j : Int) + 1 := wrap64_id (by omega) (by omega)
    have ht : ((j : Int) + 1).toNat = j + 1 := by omega
    have hx1 : (str l).extract 0 j = str (l.take j) := by rw [str_extract, List.drop_zero]
    have hx2 : (str l).extract (j + 1) l.length = str t := by rw [str_extract, List.take_length, htt]
    refine walkBF (hd) ?_
    refine walkC (hD) ?_
    refine walkGF (And.intro hw (And.intro @str_size (And.intro ht hx2))) ?_
    refine walkC (hS) ?_
    refine walkG ?_
    refine VC.cond (by rfl) (by trivial) (fun hc => ?_) (fun hc => ?_)
    · have hf : V = false := by
        have : b = false := by simpa using hc
        rw [← hv2, this]
        simp
      subst hf
      refine walkG ?_
      refine ⟨by first | exact .inr rfl | exact .inl rfl, ?_⟩; rw [Tryz.results184]; simp only [resOk, resV, go_sem, simprocAttr]
      exact .c _
    · have hbt : b = true := by simpa using hc
      rw [hbt, Bool.and_true] at hv2
      refine walkG ?_
      refine walkC (hD) ?_
      refine walkGF (And.intro @str_size hx1) ?_
      refine .next ⟨l.take j, by rw [List.length_take]; omega, hv2⟩ ?_ (by simp only [List.length_take]; omega)
      simp only [Weak, eq_self, used_is, sc_any, sc_c, sc_pp, sc_ref, sc_row, sc_agg, sc_fn, ScL, some_imp, List.forall_mem_map, go_sem, Int.reduceBEq, Int.reduceLE, Int.reduceLT, Int.reduceNeg, Nat.reduceAdd, Nat.reduceEqDiff, Nat.reduceLT, Nat.reduceLeDiff, Nat.reduceMul, Nat.reduceSub, reduceCtorEq, ↓reduceIte]
set_option maxRecDepth 100000 in
set_option maxHeartbeats 1600000 in
theorem rword_told (k : Nat) (hk : k ≤ 14) (w : List UInt8) (hw : kwords[k]? = some w) : Told Tryz.prog 138 [.c (.v (.int .i64 (k : Int)))] (.c (.v (.string (str w)))) := by
  rcases (by omega : k = 0 ∨ k = 1 ∨ k = 2 ∨ k = 3 ∨ k = 4 ∨ k = 5 ∨ k = 6 ∨ k = 7 ∨ k = 8 ∨ k = 9 ∨ k = 10 ∨ k = 11 ∨ k = 12 ∨ k = 13 ∨ k = 14) with rfl | rfl | rfl | rfl | rfl | rfl | rfl | rfl | rfl | rfl | rfl | rfl | rfl | rfl | rfl
  all_goals
    obtain rfl := Option.some.inj hw
    refine VC.told ent_138 Tryz.func138 rfl Tryz.ntmps138 (by simp) (by first | rfl | simp [AV.pureB, AV.pureL, pureL_c, pures]) (by first | rfl | simp [AV.pureB, AV.pureL, pureL_c, pures]) fun hb => ?_
    clear hb
    refine walkB ?_
    refine ⟨by first | exact .inr rfl | exact .inl rfl, ?_⟩; rw [Tryz.results138]; simp only [resOk, resV, go_sem, simprocAttr]
    exact .c _
set_option maxRecDepth 100000 in
set_option maxHeartbeats 800000 in
theorem rkind_told (s : List UInt8) : Told Tryz.prog 185 [.c (.v (.string (str s)))] (.c (.v (.int .i64 (kindM s : Int)))) := by
  obtain ⟨V, hV⟩ : ∃ V, V = kindM s := ⟨_, rfl⟩
  rw [← hV]
  refine VC.told ent_185 Tryz.func185 rfl Tryz.ntmps185 (by simp) (by first | rfl | simp [AV.pureB, AV.pureL, pureL_c, pures]) (by first | rfl | simp [AV.pureB, AV.pureL, pureL_c, pures]) fun hb => ?_
  clear hb
  have hE : (⟨#[]⟩ : ByteArray).toList = [] := str_toList []
  have hkl : kwords.length = 15 := rfl
  refine walkG ?_
  refine VC.loop (ι := {i : Nat // 1 ≤ i ∧ i ≤ 15 ∧ ∀ (j : Nat) (w : List UInt8), j < i → kwords[j]? = some w → s ≠ [] → w ≠ s}) (fun q => [(0, .c (.v (.string (str s)))), (3, .c (.v (.int .i64 (q.1 : Int))))]) (fun _ => []) 800 (fun q => 15 - q.1)
    ⟨1, by omega, by omega, fun j w h hj hs => by
      obtain rfl : j = 0 := by omega
      obtain rfl := Option.some.inj hj
      exact fun e => hs e.symm⟩ ?_ ?_
  · simp only [Weak, eq_self, used_is, sc_any, sc_c, sc_pp, sc_ref, sc_row, sc_agg, sc_fn, ScL, some_imp, List.forall_mem_map, go_sem, Int.reduceBEq, Int.reduceLE, Int.reduceLT, Int.reduceNeg, Nat.reduceAdd, Nat.reduceEqDiff, Nat.reduceLT, Nat.reduceLeDiff, Nat.reduceMul, Nat.reduceSub, reduceCtorEq, ↓reduceIte]
  rintro ⟨i, hi0, hi, ht⟩
  simp only []
  refine walkG ?_
  refine VC.cond (by rfl) (by trivial) (fun hc => ?_) (fun hc => ?_)
  · have hlt : i < 15 := by simp at hc; omega
    obtain ⟨w, hx⟩ : ∃ w, kwords[i]? = some w := ⟨kwords[i]'(by omega), List.getElem?_eq_getElem (by omega)⟩
    have hw : IntKind.i64.wrap ((i : Int) + 1) = (i : Int) + 1 := wrap64_id (by omega) (by omega)
    have hW := rword_told i (by omega) w hx
    refine walkGF (And.intro @str_toList hE) ?_
    refine walkD (hW) ?_
    refine walkGF (And.intro @str_toList hE) ?_
    refine VC.cond (by rfl) (by trivial) (fun hc2 => ?_) (fun hc2 => ?_)
    · have hh : s ≠ [] ∧ w = s := by simpa using hc2
      have hf : V = i := by
        rw [hV, kindM, if_neg hh.1]
        have : kwords.findIdx? (· == s) = some i := by
          rw [List.findIdx?_eq_some_iff_getElem]
          refine ⟨by omega, ?_, fun j hj => ?_⟩
          · have := (List.getElem?_eq_some_iff.1 hx).2
            simp [this, hh.2]
          · have := ht j _ hj (List.getElem?_eq_getElem (by omega)) hh.1
            simpa using this
        rw [this]
      subst hf
      refine walkG ?_
      refine ⟨by first | exact .inr rfl | exact .inl rfl, ?_⟩; rw [Tryz.results185]; simp only [resOk, resV, go_sem, simprocAttr]
      exact .c _
    · have hh : ¬ (s ≠ [] ∧ w = s) := by simpa using hc2
      refine walkGF (hw) ?_
      refine .next ⟨i + 1, by omega, by omega, ?_⟩ ?_ (by simp only []; omega)
      · intro j u hj hu hs
        by_cases hji : j < i
        · exact ht j u hji hu hs
        · obtain rfl : j = i := by omega
          rw [hx] at hu
          obtain rfl := Option.some.inj hu
          exact fun e => hh ⟨hs, e⟩
      simp only [Weak, eq_self, used_is, sc_any, sc_c, sc_pp, sc_ref, sc_row, sc_agg, sc_fn, ScL, some_imp, List.forall_mem_map, go_sem, Int.reduceBEq, Int.reduceLE, Int.reduceLT, Int.reduceNeg, Nat.reduceAdd, Nat.reduceEqDiff, Nat.reduceLT, Nat.reduceLeDiff, Nat.reduceMul, Nat.reduceSub, reduceCtorEq, ↓reduceIte]
      exact cI (by omega)
  · have hie : i = 15 := by simp at hc; omega
    have hf : V = 0 := by
      rw [hV, kindM]
      split
      · rfl
      · rename_i hs
        have : kwords.findIdx? (· == s) = none := by
          rw [List.findIdx?_eq_none_iff]
          intro w hw
          obtain ⟨j, hj⟩ := List.getElem?_of_mem hw
          have := ht j w (by have := (List.getElem?_eq_some_iff.1 hj).1; omega) hj hs
          simpa using this
        rw [this]
    subst hf
    refine walkG ?_
    refine ⟨by first | exact .inr rfl | exact .inl rfl, ?_⟩; rw [Tryz.results185]; simp only [resOk, resV, go_sem, simprocAttr]
    exact .c _

set_option maxRecDepth 100000 in
set_option maxHeartbeats 800000 in
theorem rsame_told : ∀ (m : Nat) (a b : JT), SizeOf.sizeOf a ≤ m → Told Tryz.prog 39 [a.av, b.av] (.c (.v (.bool (jeq a b)))) := by
  intro m
  induction m with
  | zero => intro a b ha; cases a; simp at ha
  | succ m ih =>
  intro a b ha
  cases a with
  | mk k n s ks xs =>
  cases b with
  | mk k' n' s' ks' xs' =>
  refine VC.told ent_39 Tryz.func39 rfl Tryz.ntmps39 (by simp) rfl rfl fun hb => ?_
  simp only [JT.av, cells_mk, List.map_cons, List.map_nil, abd_agg, abd_c, pbd_v, pbd_sl, List.mem_cons, List.not_mem_nil, or_false, forall_eq_or_imp, forall_eq, true_and, List.length_map] at hb ⊢
  have hx1 := hb.1.1.1
  have hk1 := hb.1.2.1
  clear hb
  refine walkGF (@str_toList) ?_
  refine VC.cond (by rfl) (by trivial) (fun hc => ?_) (fun hc => ?_)
  · have hne : jeq (.mk k n s ks xs) (.mk k' n' s' ks' xs') = false := by
      rw [jeq_false]
      intro e
      injection e with e1 e2 e3 e4 e5
      subst e1 e2 e3 e4 e5
      simp at hc
    refine walkG ?_
    refine ⟨.inr rfl, ?_⟩
    rw [Tryz.results39, hne]
    simp only [resOk, resV, go_sem, simprocAttr]
    exact .c _
  · simp only [Bool.or_eq_false_iff, bne_eq_false_iff_eq, Bool.not_eq_false', beq_iff_eq] at hc
    obtain ⟨⟨⟨⟨rfl, rfl⟩, rfl⟩, hkl⟩, hxl⟩ := hc
    have hkl : ks.length = ks'.length := by omega
    have hxl : xs.length = xs'.length := by omega
    refine walkG ?_
    refine VC.loop (ι := {i : Nat // i ≤ ks.length ∧ ks.take i = ks'.take i}) (fun i => [(2, .ref 0 1 0 0), (3, .ref 8 1 0 0), (5, .c (.v (.int .i64 i.1)))])
      (fun _ => [(0, ⟨false, 36, 5, [(JT.mk k n s ks xs).cells.map .c]⟩), (8, ⟨false, 36, 5, [(JT.mk k n s ks' xs').cells.map .c]⟩)]) 16 (fun i => ks.length - i.1) ⟨0, Nat.zero_le _, rfl⟩ ?_ ?_
    · simp only [cells_mk, Weak, eq_self, used_is, sc_any, sc_c, sc_pp, sc_ref, sc_row, sc_agg, sc_fn, ScL, some_imp, List.forall_mem_map, go_sem, Int.reduceBEq, Int.reduceLE, Int.reduceLT, Int.reduceNeg, Nat.reduceAdd, Nat.reduceEqDiff, Nat.reduceLT, Nat.reduceLeDiff, Nat.reduceMul, Nat.reduceSub, reduceCtorEq, ↓reduceIte]
      all_goals rfl
    rintro ⟨i, hi, ht⟩
    refine walkGF (@cells_mk) ?_
    refine VC.cond (by rfl) (by trivial) (fun hc => ?_) (fun hc => ?_)
    · simp only [decide_eq_true_eq] at hc
      obtain ⟨x, hx⟩ : ∃ x, ks[i]? = some x := ⟨ks[i], List.getElem?_eq_getElem (by omega)⟩
      obtain ⟨y, hy⟩ : ∃ y, ks'[i]? = some y := ⟨ks'[i], List.getElem?_eq_getElem (by omega)⟩
      have hw : IntKind.i64.wrap ((i : Int) + 1) = (i : Int) + 1 := wrap64_id (by omega) (by omega)
      have htn := taken_next hx hy ht
      (repeat (first | refine pass ?_ | refine VC.region (by rfl) (by rfl) ?_ | (refine AO.step fun K hK => ?_; simp only [cells_mk, List.getElem?_map, hx, hy, sPV, str_toList, go_sem, Int.reduceBEq, Int.reduceLE, Int.reduceLT, Int.reduceNeg, Nat.reduceAdd, Nat.reduceEqDiff, Nat.reduceLT, Nat.reduceLeDiff, Nat.reduceMul, Nat.reduceSub, reduceCtorEq, ↓reduceIte]; (first | refine gsel_skip ?_ | refine gsel_go ?_ | skip); (first | refine hK _ _ _ ?_ | refine ⟨by first | omega | exact ⟨_, rfl, rfl⟩ | exact fun _ => ⟨_, rfl, rfl⟩ | (intro h; simp only [cells_mk, List.getElem?_map, hx, hy, sPV, str_toList, h, true_and]; omega) | (clear hK; intro h; simp_all <;> omega), hK _ _ _ ?_⟩); clear hK K) | refine VC.draw mixP (by rfl) (by rfl) ?_ | refine ⟨okd_of (by kernel_rfl), ?_⟩ | refine BQ.other (by decide) ?_ | refine VC.seq ?_ | refine AO.nil ?_ | refine VC.block ?_))
      refine VC.cond (by rfl) (by trivial) (fun hc2 => ?_) (fun hc2 => ?_)
      · have hne : jeq (.mk k n s ks xs) (.mk k n s ks' xs') = false := by
          rw [jeq_false]
          intro e
          injection e with e1 e2 e3 e4 e5
          subst e4
          rw [hx] at hy
          obtain rfl := Option.some.inj hy
          simp at hc2
        refine walkG ?_
        refine ⟨.inr rfl, ?_⟩
        rw [Tryz.results39, hne]
        simp only [resOk, resV, go_sem, simprocAttr]
        exact .c _
      · have hxy : x = y := by simpa using hc2
        refine walkGF (hw) ?_
        refine .next ⟨i + 1, by omega, htn.2 hxy⟩ ?_ (by simp only []; omega)
        simp only [cells_mk, Weak, eq_self, used_is, sc_any, sc_c, sc_pp, sc_ref, sc_row, sc_agg, sc_fn, ScL, some_imp, List.forall_mem_map, go_sem, Int.reduceBEq, Int.reduceLE, Int.reduceLT, Int.reduceNeg, Nat.reduceAdd, Nat.reduceEqDiff, Nat.reduceLT, Nat.reduceLeDiff, Nat.reduceMul, Nat.reduceSub, reduceCtorEq, ↓reduceIte]
        exact cI (by omega)
    · simp only [decide_eq_false_iff_not] at hc
      obtain rfl : i = ks.length := by omega
      have hke : ks = ks' := by
        rw [List.take_length, hkl, List.take_length] at ht
        exact ht
      subst hke
      refine walkG ?_
      refine VC.loop (ι := {i : Nat // i ≤ xs.length ∧ xs.take i = xs'.take i}) (fun i => [(2, .ref 0 1 0 0), (3, .ref 8 1 0 0), (6, .c (.v (.int .i64 i.1)))])
        (fun _ => [(0, ⟨false, 36, 5, [(JT.mk k n s ks xs).cells.map .c]⟩), (8, ⟨false, 36, 5, [(JT.mk k n s ks xs').cells.map .c]⟩)]) 16 (fun i => xs.length - i.1) ⟨0, Nat.zero_le _, rfl⟩ ?_ ?_
      · simp only [cells_mk, Weak, eq_self, used_is, sc_any, sc_c, sc_pp, sc_ref, sc_row, sc_agg, sc_fn, ScL, some_imp, List.forall_mem_map, go_sem, Int.reduceBEq, Int.reduceLE, Int.reduceLT, Int.reduceNeg, Nat.reduceAdd, Nat.reduceEqDiff, Nat.reduceLT, Nat.reduceLeDiff, Nat.reduceMul, Nat.reduceSub, reduceCtorEq, ↓reduceIte]
        all_goals rfl
      rintro ⟨i, hi, ht⟩
      refine walkGF (@cells_mk) ?_
      refine VC.cond (by rfl) (by trivial) (fun hc => ?_) (fun hc => ?_)
      · simp only [decide_eq_true_eq] at hc
        obtain ⟨x, hx⟩ : ∃ x, xs[i]? = some x := ⟨xs[i], List.getElem?_eq_getElem (by omega)⟩
        obtain ⟨y, hy⟩ : ∃ y, xs'[i]? = some y := ⟨xs'[i], List.getElem?_eq_getElem (by omega)⟩
        have hw : IntKind.i64.wrap ((i : Int) + 1) = (i : Int) + 1 := wrap64_id (by omega) (by omega)
        have hcl := ih x y (by
          have h1 := List.sizeOf_lt_of_mem (List.mem_of_getElem? hx)
          simp at ha
          omega)
        (repeat (first | refine pass ?_ | refine VC.region (by rfl) (by rfl) ?_ | (refine AO.step fun K hK => ?_; simp only [cells_mk, List.getElem?_map, hx, hy, len_cells, take_cells, take_cellsC, go_sem, Int.reduceBEq, Int.reduceLE, Int.reduceLT, Int.reduceNeg, Nat.reduceAdd, Nat.reduceEqDiff, Nat.reduceLT, Nat.reduceLeDiff, Nat.reduceMul, Nat.reduceSub, reduceCtorEq, ↓reduceIte]; (first | refine gsel_skip ?_ | refine gsel_go ?_ | skip); (first | refine hK _ _ _ ?_ | refine ⟨by first | omega | exact ⟨_, rfl, rfl⟩ | exact fun _ => ⟨_, rfl, rfl⟩ | (intro h; simp only [cells_mk, List.getElem?_map, hx, hy, len_cells, take_cells, take_cellsC, h, true_and]; omega) | (clear hK; intro h; simp_all <;> omega), hK _ _ _ ?_⟩); clear hK K) | refine VC.draw mixP (by rfl) (by rfl) ?_ | refine ⟨okd_of (by kernel_rfl), ?_⟩ | refine BQ.other (by decide) ?_ | refine VC.seq ?_ | refine AO.nil ?_ | refine VC.block ?_))
        (refine AO.step fun K hK => ?_; simp only [go_sem, Int.reduceBEq, Int.reduceLE, Int.reduceLT, Int.reduceNeg, Nat.reduceAdd, Nat.reduceEqDiff, Nat.reduceLT, Nat.reduceLeDiff, Nat.reduceMul, Nat.reduceSub, reduceCtorEq, ↓reduceIte, pureL_c]; (first | refine gsel_go ?_ | skip))
        refine .inl ⟨_, hcl, hK _ _ _ ?_⟩
        clear hK K
        refine walkG ?_
        refine VC.cond (by rfl) (by trivial) (fun hc2 => ?_) (fun hc2 => ?_)
        · have hne : jeq (.mk k n s ks xs) (.mk k n s ks xs') = false := by
            rw [jeq_false]
            intro e
            injection e with e1 e2 e3 e4 e5
            subst e5
            rw [hx] at hy
            obtain rfl := Option.some.inj hy
            rw [jeq_self] at hc2
            simp at hc2
          refine walkG ?_
          refine ⟨.inr rfl, ?_⟩
          rw [Tryz.results39, hne]
          simp only [resOk, resV, go_sem, simprocAttr]
          exact .c _
        · have hxy : x = y := by
            rw [← jeq_iff]
            simpa using hc2
          refine walkGF (hw) ?_
          refine .next ⟨i + 1, by omega, ?_⟩ ?_ (by simp only []; omega)
          · rw [List.take_add_one, List.take_add_one, hx, hy, ht, hxy]
          simp only [cells_mk, Weak, eq_self, used_is, sc_any, sc_c, sc_pp, sc_ref, sc_row, sc_agg, sc_fn, ScL, some_imp, List.forall_mem_map, go_sem, Int.reduceBEq, Int.reduceLE, Int.reduceLT, Int.reduceNeg, Nat.reduceAdd, Nat.reduceEqDiff, Nat.reduceLT, Nat.reduceLeDiff, Nat.reduceMul, Nat.reduceSub, reduceCtorEq, ↓reduceIte]
          exact cI (by omega)
      · simp only [decide_eq_false_iff_not] at hc
        obtain rfl : i = xs.length := by omega
        have heq : xs = xs' := by
          rw [List.take_length, hxl, List.take_length] at ht
          exact ht
        subst heq
        refine walkG ?_
        refine ⟨.inr rfl, ?_⟩
        rw [Tryz.results39, jeq_self]
        simp only [resOk, resV, go_sem, simprocAttr]
        exact .c _

theorem take_nexty {α : Type} {ks ls : List α} {i : Nat} {x y : α} (hx : ks[i]? = some x) (hy : ls[i]? = some y) (h : ks.take i = ls.take i) (e : x = y) : ks.take (i + 1) = ls.take (i + 1) := by
  rw [List.take_add_one, List.take_add_one, hx, hy, h, e]
theorem ne_at {α : Type} {ks ls : List α} {i : Nat} {x y : α} (hx : ks[i]? = some x) (hy : ls[i]? = some y) (h : x ≠ y) : ks ≠ ls := by
  rintro rfl
  rw [hx] at hy
  exact h (Option.some.inj hy)
theorem take_end {α : Type} {ks ls : List α} {i : Nat} (h : ks.take i = ls.take i) (h1 : i = ks.length) (h2 : ks.length = ls.length) : ks = ls := by
  rw [h1, List.take_length, h2, List.take_length] at h
  exact h
set_option maxRecDepth 100000 in
set_option maxHeartbeats 800000 in
theorem rtexts_told (ks ls : List (List UInt8)) : Told Tryz.prog 63 [.c (.sl 1 (ks.map sPV)), .c (.sl 1 (ls.map sPV))] (.c (.v (.bool (ks == ls)))) := by
  obtain ⟨V, hV⟩ : ∃ V, V = (ks == ls) := ⟨_, rfl⟩
  rw [← hV]
  refine VC.told ent_63 Tryz.func63 rfl Tryz.ntmps63 (by simp) (by first | rfl | simp [AV.pureB, AV.pureL, pureL_c, pures]) (by first | rfl | simp [AV.pureB, AV.pureL, pureL_c, pures]) fun hb => ?_
  simp only [abd_c, pbd_sl, List.mem_cons, List.not_mem_nil, or_false, forall_eq_or_imp, forall_eq, true_and, List.length_map] at hb
  have hkb := hb.1.1
  clear hb
  refine walkG ?_
  refine VC.cond (by rfl) (by trivial) (fun hc => ?_) (fun hc => ?_)
  · have hf : V = false := by
      rw [hV, beq_eq_false_iff_ne]
      rintro rfl
      simp at hc
    subst hf
    refine walkG ?_
    refine ⟨by first | exact .inr rfl | exact .inl rfl, ?_⟩; rw [Tryz.results63]; simp only [resOk, resV, go_sem, simprocAttr]
    exact .c _
  have hll : ks.length = ls.length := by simp at hc; omega
  refine walkG ?_
  refine VC.loop (ι := {i : Nat // i ≤ ks.length ∧ ks.take i = ls.take i}) (fun q => [(0, .c (.sl 1 (ks.map sPV))), (1, .c (.sl 1 (ls.map sPV))), (5, .c (.v (.int .i64 (q.1 : Int))))]) (fun _ => []) 800 (fun q => ks.length - q.1) ⟨0, Nat.zero_le _, rfl⟩ ?_ ?_
  · simp only [Weak, eq_self, used_is, sc_any, sc_c, sc_pp, sc_ref, sc_row, sc_agg, sc_fn, ScL, some_imp, List.forall_mem_map, go_sem, Int.reduceBEq, Int.reduceLE, Int.reduceLT, Int.reduceNeg, Nat.reduceAdd, Nat.reduceEqDiff, Nat.reduceLT, Nat.reduceLeDiff, Nat.reduceMul, Nat.reduceSub, reduceCtorEq, ↓reduceIte]
  rintro ⟨i, hi, ht⟩
  simp only []
  refine walkG ?_
  refine VC.cond (by rfl) (by trivial) (fun hc2 => ?_) (fun hc2 => ?_)
  · have hlt : i < ks.length := by simp at hc2; omega
    obtain ⟨x, hx⟩ : ∃ x, ks[i]? = some x := ⟨ks[i], List.getElem?_eq_getElem hlt⟩
    obtain ⟨y, hy⟩ : ∃ y, ls[i]? = some y := ⟨ls[i]'(by omega), List.getElem?_eq_getElem (by omega)⟩
    have hw : IntKind.i64.wrap ((i : Int) + 1) = (i : Int) + 1 := wrap64_id (by omega) (by omega)
    have hxp : (ks.map sPV)[i]? = some (sPV x) := by rw [List.getElem?_map, hx]; rfl
    have hyp : (ls.map sPV)[i]? = some (sPV y) := by rw [List.getElem?_map, hy]; rfl
    refine walkGF (And.intro hxp (And.intro hyp (And.intro @sPV_eq @str_toList))) ?_
    refine VC.cond (by rfl) (by trivial) (fun hc3 => ?_) (fun hc3 => ?_)
    · have hf : V = false := by
        rw [hV, beq_eq_false_iff_ne]
        exact ne_at hx hy (by simpa using hc3)
      subst hf
      refine walkG ?_
      refine ⟨by first | exact .inr rfl | exact .inl rfl, ?_⟩; rw [Tryz.results63]; simp only [resOk, resV, go_sem, simprocAttr]
      exact .c _
    · have hxy : x = y := by simpa using hc3
      refine walkGF (hw) ?_
      refine .next ⟨i + 1, by omega, take_nexty hx hy ht hxy⟩ ?_ (by simp only []; omega)
      simp only [Weak, eq_self, used_is, sc_any, sc_c, sc_pp, sc_ref, sc_row, sc_agg, sc_fn, ScL, some_imp, List.forall_mem_map, go_sem, Int.reduceBEq, Int.reduceLE, Int.reduceLT, Int.reduceNeg, Nat.reduceAdd, Nat.reduceEqDiff, Nat.reduceLT, Nat.reduceLeDiff, Nat.reduceMul, Nat.reduceSub, reduceCtorEq, ↓reduceIte]
      try exact cI (by omega)
  · have hie : i = ks.length := by simp at hc2; omega
    have hf : V = true := by
      rw [hV, beq_iff_eq]
      exact take_end ht hie hll
    subst hf
    refine walkG ?_
    refine ⟨by first | exact .inr rfl | exact .inl rfl, ?_⟩; rw [Tryz.results63]; simp only [resOk, resV, go_sem, simprocAttr]
    exact .c _
set_option maxRecDepth 100000 in
set_option maxHeartbeats 800000 in
theorem rsimples_told (l : List (List UInt8)) (hl : l.length ≤ 1000000000) (hs : ∀ x ∈ l, x.length ≤ 1000000000) : Told Tryz.prog 186 [.c (.sl 1 (l.map sPV))] (.c (.v (.bool (allM simpleM l)))) := by
  obtain ⟨V, hV⟩ : ∃ V, V = allM simpleM l := ⟨_, rfl⟩
  rw [← hV]
  unfold allM at hV
  refine VC.told ent_186 Tryz.func186 rfl Tryz.ntmps186 (by simp) (by first | rfl | simp [AV.pureB, AV.pureL, pureL_c, pures]) (by first | rfl | simp [AV.pureB, AV.pureL, pureL_c, pures]) fun hb => ?_
  clear hb
  refine walkG ?_
  refine VC.loop (ι := {i : Nat // i ≤ l.length ∧ ∀ (j : Nat) (x : List UInt8), j < i → l[j]? = some x → simpleM x = true}) (fun q => [(0, .c (.sl 1 (l.map sPV))), (3, .c (.v (.int .i64 (q.1 : Int))))]) (fun _ => []) 800 (fun q => l.length - q.1) ⟨0, Nat.zero_le _, fun j x h => by omega⟩ ?_ ?_
  · simp only [Weak, eq_self, used_is, sc_any, sc_c, sc_pp, sc_ref, sc_row, sc_agg, sc_fn, ScL, some_imp, List.forall_mem_map, go_sem, Int.reduceBEq, Int.reduceLE, Int.reduceLT, Int.reduceNeg, Nat.reduceAdd, Nat.reduceEqDiff, Nat.reduceLT, Nat.reduceLeDiff, Nat.reduceMul, Nat.reduceSub, reduceCtorEq, ↓reduceIte]
  rintro ⟨i, hi, ht⟩
  simp only []
  refine walkG ?_
  refine VC.cond (by rfl) (by trivial) (fun hc => ?_) (fun hc => ?_)
  · have hlt : i < l.length := by simp at hc; omega
    obtain ⟨x, hx⟩ : ∃ x, l[i]? = some x := ⟨l[i], List.getElem?_eq_getElem hlt⟩
    have hw : IntKind.i64.wrap ((i : Int) + 1) = (i : Int) + 1 := wrap64_id (by omega) (by omega)
    have hxp : (l.map sPV)[i]? = some (sPV x) := by rw [List.getElem?_map, hx]; rfl
    have hS := rsimple_told x (hs x (List.mem_of_getElem? hx))
    refine walkGF (And.intro hxp @sPV_eq) ?_
    refine walkC (hS) ?_
    refine walkG ?_
    refine VC.cond (by rfl) (by trivial) (fun hc2 => ?_) (fun hc2 => ?_)
    · have hf : V = false := by
        have : l.all simpleM = false := by
          rw [List.all_eq_false]
          exact ⟨x, List.mem_of_getElem? hx, by simpa using hc2⟩
        rw [hV, this]
        simp
      subst hf
      refine walkG ?_
      refine ⟨by first | exact .inr rfl | exact .inl rfl, ?_⟩; rw [Tryz.results186]; simp only [resOk, resV, go_sem, simprocAttr]
      exact .c _
    · have hsx : simpleM x = true := by simpa using hc2
      refine walkGF (hw) ?_
      refine .next ⟨i + 1, by omega, ?_⟩ ?_ (by simp only []; omega)
      · intro j y hj hy
        by_cases hji : j < i
        · exact ht j y hji hy
        · obtain rfl : j = i := by omega
          rw [hx] at hy
          obtain rfl := Option.some.inj hy
          exact hsx
      simp only [Weak, eq_self, used_is, sc_any, sc_c, sc_pp, sc_ref, sc_row, sc_agg, sc_fn, ScL, some_imp, List.forall_mem_map, go_sem, Int.reduceBEq, Int.reduceLE, Int.reduceLT, Int.reduceNeg, Nat.reduceAdd, Nat.reduceEqDiff, Nat.reduceLT, Nat.reduceLeDiff, Nat.reduceMul, Nat.reduceSub, reduceCtorEq, ↓reduceIte]
      try exact cI (by omega)
  · have hie : i = l.length := by simp at hc; omega
    have hf : V = decide ((l.length : Int) ≤ 40) := by
      have : l.all simpleM = true := by
        rw [List.all_eq_true]
        intro y hy
        obtain ⟨j, hj⟩ := List.getElem?_of_mem hy
        exact ht j y (by have := (List.getElem?_eq_some_iff.1 hj).1; omega) hj
      rw [hV, this, Bool.and_true]
      exact decide_eq_decide.2 (by omega)
    rw [hf]
    refine walkG ?_
    refine ⟨by first | exact .inr rfl | exact .inl rfl, ?_⟩; rw [Tryz.results186]; simp only [resOk, resV, go_sem, simprocAttr]
    exact .c _
theorem nodup_take {l : List (List UInt8)} {i : Nat} {x : List UInt8} (hx : l[i]? = some x) (h : (l.take i).Nodup) (hn : ∀ (k : Nat) (y : List UInt8), k < i → l[k]? = some y → y ≠ x) : (l.take (i + 1)).Nodup := by
  rw [List.take_add_one, hx]
  simp only [Option.toList_some]
  rw [List.nodup_append]
  refine ⟨h, by simp, fun a ha b hb => ?_⟩
  obtain rfl := List.mem_singleton.1 hb
  obtain ⟨k, hk⟩ := List.getElem?_of_mem ha
  rw [List.getElem?_take] at hk
  split at hk
  · rename_i hki
    exact hn k a hki hk
  · simp at hk
theorem nodup_ne {l : List (List UInt8)} (h : l.Nodup) {i k : Nat} {x y : List UInt8} (hx : l[i]? = some x) (hy : l[k]? = some y) (hk : k < i) : y ≠ x := by
  obtain ⟨h1, rfl⟩ := List.getElem?_eq_some_iff.1 hx
  obtain ⟨h2, rfl⟩ := List.getElem?_eq_some_iff.1 hy
  intro e
  exact List.pairwise_iff_getElem.1 h k i h2 h1 hk e
set_option maxRecDepth 100000 in
set_option maxHeartbeats 800000 in
theorem ronce_told (l : List (List UInt8)) (hl : l.length ≤ 1000000000) : Told Tryz.prog 110 [.c (.sl 1 (l.map sPV))] (.c (.v (.bool (decide l.Nodup)))) := by
  obtain ⟨V, hV⟩ : ∃ V, V = decide l.Nodup := ⟨_, rfl⟩
  rw [← hV]
  refine VC.told ent_110 Tryz.func110 rfl Tryz.ntmps110 (by simp) (by first | rfl | simp [AV.pureB, AV.pureL, pureL_c, pures]) (by first | rfl | simp [AV.pureB, AV.pureL, pureL_c, pures]) fun hb => ?_
  clear hb
  refine walkG ?_
  refine VC.loop (ι := {i : Nat // i ≤ l.length ∧ (l.take i).Nodup}) (fun q => [(0, .c (.sl 1 (l.map sPV))), (3, .c (.v (.int .i64 (q.1 : Int))))]) (fun _ => []) 800 (fun q => l.length - q.1) ⟨0, Nat.zero_le _, by simp⟩ ?_ ?_
  · simp only [Weak, eq_self, used_is, sc_any, sc_c, sc_pp, sc_ref, sc_row, sc_agg, sc_fn, ScL, some_imp, List.forall_mem_map, go_sem, Int.reduceBEq, Int.reduceLE, Int.reduceLT, Int.reduceNeg, Nat.reduceAdd, Nat.reduceEqDiff, Nat.reduceLT, Nat.reduceLeDiff, Nat.reduceMul, Nat.reduceSub, reduceCtorEq, ↓reduceIte]
  rintro ⟨i, hi, ht⟩
  simp only []
  refine walkG ?_
  refine VC.cond (by rfl) (by trivial) (fun hc => ?_) (fun hc => ?_)
  · have hlt : i < l.length := by simp at hc; omega
    obtain ⟨x, hx⟩ : ∃ x, l[i]? = some x := ⟨l[i], List.getElem?_eq_getElem hlt⟩
    have hw : IntKind.i64.wrap ((i : Int) + 1) = (i : Int) + 1 := wrap64_id (by omega) (by omega)
    have hxp : (l.map sPV)[i]? = some (sPV x) := by rw [List.getElem?_map, hx]; rfl
    refine walkG ?_
    refine VC.loop (ι := {k : Nat // k ≤ i ∧ ∀ (j : Nat) (y : List UInt8), j < k → l[j]? = some y → y ≠ x}) (fun q => [(0, .c (.sl 1 (l.map sPV))), (3, .c (.v (.int .i64 (i : Int)))), (4, .c (.v (.int .i64 (q.1 : Int))))]) (fun _ => []) 800 (fun q => i - q.1) ⟨0, Nat.zero_le _, fun j y h => by omega⟩ ?_ ?_
    · simp only [Weak, eq_self, used_is, sc_any, sc_c, sc_pp, sc_ref, sc_row, sc_agg, sc_fn, ScL, some_imp, List.forall_mem_map, go_sem, Int.reduceBEq, Int.reduceLE, Int.reduceLT, Int.reduceNeg, Nat.reduceAdd, Nat.reduceEqDiff, Nat.reduceLT, Nat.reduceLeDiff, Nat.reduceMul, Nat.reduceSub, reduceCtorEq, ↓reduceIte]
    rintro ⟨k, hk, hn⟩
    simp only []
    refine walkG ?_
    refine VC.cond (by rfl) (by trivial) (fun hc2 => ?_) (fun hc2 => ?_)
    · have hki : k < i := by simp at hc2; omega
      obtain ⟨y, hy⟩ : ∃ y, l[k]? = some y := ⟨l[k]'(by omega), List.getElem?_eq_getElem (by omega)⟩
      have hwk : IntKind.i64.wrap ((k : Int) + 1) = (k : Int) + 1 := wrap64_id (by omega) (by omega)
      have hyp : (l.map sPV)[k]? = some (sPV y) := by rw [List.getElem?_map, hy]; rfl
      refine walkGF (And.intro hxp (And.intro hyp (And.intro @sPV_eq @str_toList))) ?_
      refine VC.cond (by rfl) (by trivial) (fun hc3 => ?_) (fun hc3 => ?_)
      · have hf : V = false := by
          rw [hV, decide_eq_false_iff_not]
          intro hd
          exact nodup_ne hd hx hy hki (by simpa using hc3)
        subst hf
        refine walkG ?_
        refine ⟨by first | exact .inr rfl | exact .inl rfl, ?_⟩; rw [Tryz.results110]; simp only [resOk, resV, go_sem, simprocAttr]
        exact .c _
      · have hyx : y ≠ x := by simpa using hc3
        refine walkGF (hwk) ?_
        refine .next ⟨k + 1, by omega, ?_⟩ ?_ (by simp only []; omega)
        · intro j z hj hz
          by_cases hji : j < k
          · exact hn j z hji hz
          · obtain rfl : j = k := by omega
            rw [hy] at hz
            obtain rfl := Option.some.inj hz
            exact hyx
        simp only [Weak, eq_self, used_is, sc_any, sc_c, sc_pp, sc_ref, sc_row, sc_agg, sc_fn, ScL, some_imp, List.forall_mem_map, go_sem, Int.reduceBEq, Int.reduceLE, Int.reduceLT, Int.reduceNeg, Nat.reduceAdd, Nat.reduceEqDiff, Nat.reduceLT, Nat.reduceLeDiff, Nat.reduceMul, Nat.reduceSub, reduceCtorEq, ↓reduceIte]
        try exact cI (by omega)
    · have hke : k = i := by simp at hc2; omega
      subst hke
      refine walkGF (hw) ?_
      refine .next ⟨k + 1, by omega, nodup_take hx ht hn⟩ ?_ (by simp only []; omega)
      simp only [Weak, eq_self, used_is, sc_any, sc_c, sc_pp, sc_ref, sc_row, sc_agg, sc_fn, ScL, some_imp, List.forall_mem_map, go_sem, Int.reduceBEq, Int.reduceLE, Int.reduceLT, Int.reduceNeg, Nat.reduceAdd, Nat.reduceEqDiff, Nat.reduceLT, Nat.reduceLeDiff, Nat.reduceMul, Nat.reduceSub, reduceCtorEq, ↓reduceIte]
      try exact cI (by omega)
  · have hie : i = l.length := by simp at hc; omega
    have hf : V = true := by
      rw [hV, decide_eq_true_eq]
      rw [hie, List.take_length] at ht
      exact ht
    subst hf
    refine walkG ?_
    refine ⟨by first | exact .inr rfl | exact .inl rfl, ?_⟩; rw [Tryz.results110]; simp only [resOk, resV, go_sem, simprocAttr]
    exact .c _

set_option maxRecDepth 100000 in
set_option maxHeartbeats 1600000 in
theorem rone_told (a b : NT) : Told Tryz.prog 56 [a.av, b.av] (.c (.v (.bool (ceq a b)))) := by
  obtain ⟨V, hV⟩ : ∃ V, V = ceq a b := ⟨_, rfl⟩
  rw [← hV]
  have hT1 := rtexts_told a.aliases b.aliases
  have hT2 := rtexts_told a.symbols b.symbols
  obtain ⟨t1, ht1⟩ : ∃ t, t = (a.aliases == b.aliases) := ⟨_, rfl⟩
  obtain ⟨t2, ht2⟩ : ∃ t, t = (a.symbols == b.symbols) := ⟨_, rfl⟩
  rw [← ht1] at hT1
  rw [← ht2] at hT2
  rw [NT.av_eq, NT.av_eq, ncells_mk, ncells_mk]
  refine VC.told ent_56 Tryz.func56 rfl Tryz.ntmps56 (by simp) (by first | rfl | simp [AV.pureB, AV.pureL, pureL_c, pures]) (by first | rfl | simp [AV.pureB, AV.pureL, pureL_c, pures]) fun hb => ?_
  simp only [List.map_cons, List.map_nil, abd_agg, abd_c, pbd_v, pbd_sl, List.mem_cons, List.not_mem_nil, or_false, forall_eq_or_imp, forall_eq, true_and, List.length_map] at hb
  have hfl : a.fields.length ≤ 9223372036854775807 := hb.1.2.1.1
  have hbl : a.branches.length ≤ 9223372036854775807 := hb.1.2.2.2.1
  clear hb
  refine walkGF (@str_toList) ?_
  refine walkD (hT1) ?_
  refine walkGF (@str_toList) ?_
  refine walkD (hT2) ?_
  refine walkGF (@str_toList) ?_
  refine VC.cond (by rfl) (by trivial) (fun hc => ?_) (fun hc => ?_)
  · have hf : V = false := by
      cases h : V with
      | false => rfl
      | true =>
        rw [hV, ceq_iff] at h
        subst h
        simp [ht1, ht2] at hc
    subst hf
    refine walkG ?_
    refine ⟨by first | exact .inr rfl | exact .inl rfl, ?_⟩; rw [Tryz.results56]; simp only [resOk, resV, go_sem, simprocAttr]
    exact .c _
  simp only [Bool.or_eq_false_iff, bne_eq_false_iff_eq, Bool.not_eq_false', beq_iff_eq] at hc
  obtain ⟨⟨⟨⟨⟨⟨⟨⟨⟨h1, h2⟩, h3⟩, h4⟩, h5⟩, h6⟩, h7⟩, h8⟩, h9⟩, h10⟩ := hc
  have hbb : a.branches.length = b.branches.length := by omega
  have hff : a.fields.length = b.fields.length := by omega
  have e3 : a.aliases = b.aliases := by simpa [ht1] using h3
  have e4 : a.symbols = b.symbols := by simpa [ht2] using h4
  have hv : V = (ceq a.fields b.fields && (a.branches == b.branches)) := by
    rw [hV, ceq_node, h1, h2, e3, e4, h5, h6, h7, h8]
    simp
  clear hV hT1 hT2 ht1 ht2
  refine walkG ?_
  refine VC.loop (ι := {i : Nat // i ≤ a.branches.length ∧ a.branches.take i = b.branches.take i}) (fun q => [(2, .ref 0 1 0 0), (3, .ref 8 1 0 0), (5, .c (.v (.int .i64 (q.1 : Int))))])
    (fun _ => [(0, ⟨false, 33, 10, [a.cells.map .c]⟩), (8, ⟨false, 33, 10, [b.cells.map .c]⟩)]) 800 (fun q => a.branches.length - q.1) ⟨0, Nat.zero_le _, rfl⟩ ?_ ?_
  · simp only [ncells_mk, Weak, eq_self, used_is, sc_any, sc_c, sc_pp, sc_ref, sc_row, sc_agg, sc_fn, ScL, some_imp, List.forall_mem_map, go_sem, Int.reduceBEq, Int.reduceLE, Int.reduceLT, Int.reduceNeg, Nat.reduceAdd, Nat.reduceEqDiff, Nat.reduceLT, Nat.reduceLeDiff, Nat.reduceMul, Nat.reduceSub, reduceCtorEq, ↓reduceIte]
    try simp
  rintro ⟨i, hi, ht⟩
  simp only []
  refine walkGF (@ncells_mk) ?_
  refine VC.cond (by rfl) (by trivial) (fun hc => ?_) (fun hc => ?_)
  · have hlt : i < a.branches.length := by simp at hc; omega
    obtain ⟨x, hx⟩ : ∃ x, a.branches[i]? = some x := ⟨a.branches[i], List.getElem?_eq_getElem hlt⟩
    obtain ⟨y, hy⟩ : ∃ y, b.branches[i]? = some y := ⟨b.branches[i]'(by omega), List.getElem?_eq_getElem (by omega)⟩
    have hw : IntKind.i64.wrap ((i : Int) + 1) = (i : Int) + 1 := wrap64_id (by omega) (by omega)
    have hxp : (a.branches.map iPV)[i]? = some (iPV x) := by rw [List.getElem?_map, hx]; rfl
    have hyp : (b.branches.map iPV)[i]? = some (iPV y) := by rw [List.getElem?_map, hy]; rfl
    refine walkGF (And.intro @ncells_mk (And.intro hxp (And.intro hyp @iPV_eq))) ?_
    refine VC.cond (by rfl) (by trivial) (fun hc2 => ?_) (fun hc2 => ?_)
    · have hf : V = false := by
        have : (a.branches == b.branches) = false := by
          rw [beq_eq_false_iff_ne]
          exact ne_at hx hy (by simpa using hc2)
        rw [hv, this]
        simp
      subst hf
      refine walkG ?_
      refine ⟨by first | exact .inr rfl | exact .inl rfl, ?_⟩; rw [Tryz.results56]; simp only [resOk, resV, go_sem, simprocAttr]
      exact .c _
    · have hxy : x = y := by simpa using hc2
      refine walkGF (hw) ?_
      refine .next ⟨i + 1, by omega, take_nexty hx hy ht hxy⟩ ?_ (by simp only []; omega)
      simp only [ncells_mk, Weak, eq_self, used_is, sc_any, sc_c, sc_pp, sc_ref, sc_row, sc_agg, sc_fn, ScL, some_imp, List.forall_mem_map, go_sem, Int.reduceBEq, Int.reduceLE, Int.reduceLT, Int.reduceNeg, Nat.reduceAdd, Nat.reduceEqDiff, Nat.reduceLT, Nat.reduceLeDiff, Nat.reduceMul, Nat.reduceSub, reduceCtorEq, ↓reduceIte]
      try exact cI (by omega)
  have hie : i = a.branches.length := by simp at hc; omega
  have hbe : a.branches = b.branches := take_end ht hie hbb
  have hv2 : V = ceq a.fields b.fields := by rw [hv, hbe]; simp
  clear hv hc
  refine walkG ?_
  refine VC.loop (ι := {i : Nat // i ≤ a.fields.length ∧ a.fields.take i = b.fields.take i}) (fun q => [(2, .ref 0 1 0 0), (3, .ref 8 1 0 0), (6, .c (.v (.int .i64 (q.1 : Int))))])
    (fun _ => [(0, ⟨false, 33, 10, [a.cells.map .c]⟩), (8, ⟨false, 33, 10, [b.cells.map .c]⟩)]) 1600 (fun q => a.fields.length - q.1) ⟨0, Nat.zero_le _, rfl⟩ ?_ ?_
  · simp only [ncells_mk, Weak, eq_self, used_is, sc_any, sc_c, sc_pp, sc_ref, sc_row, sc_agg, sc_fn, ScL, some_imp, List.forall_mem_map, go_sem, Int.reduceBEq, Int.reduceLE, Int.reduceLT, Int.reduceNeg, Nat.reduceAdd, Nat.reduceEqDiff, Nat.reduceLT, Nat.reduceLeDiff, Nat.reduceMul, Nat.reduceSub, reduceCtorEq, ↓reduceIte]
    try simp
  clear hie ht hi i
  rintro ⟨i, hi, ht⟩
  simp only []
  refine walkGF (@ncells_mk) ?_
  refine VC.cond (by rfl) (by trivial) (fun hc => ?_) (fun hc => ?_)
  · have hlt : i < a.fields.length := by simp at hc; omega
    obtain ⟨x, hx⟩ : ∃ x, a.fields[i]? = some x := ⟨a.fields[i], List.getElem?_eq_getElem hlt⟩
    obtain ⟨y, hy⟩ : ∃ y, b.fields[i]? = some y := ⟨b.fields[i]'(by omega), List.getElem?_eq_getElem (by omega)⟩
    have hw : IntKind.i64.wrap ((i : Int) + 1) = (i : Int) + 1 := wrap64_id (by omega) (by omega)
    have hxp : (a.fields.map FT.cells)[i]? = some x.cells := by rw [List.getElem?_map, hx]; rfl
    have hyp : (b.fields.map FT.cells)[i]? = some y.cells := by rw [List.getElem?_map, hy]; rfl
    have hT := rtexts_told x.aliases y.aliases
    have hS := rsame_told _ x.dflt y.dflt (Nat.le_refl _)
    simp only [JT.av] at hS
    obtain ⟨u1, hu1⟩ : ∃ t, t = (x.aliases == y.aliases) := ⟨_, rfl⟩
    obtain ⟨u2, hu2⟩ : ∃ t, t = jeq x.dflt y.dflt := ⟨_, rfl⟩
    rw [← hu1] at hT
    rw [← hu2] at hS
    refine walkGF (And.intro @ncells_mk (And.intro hxp (And.intro hyp (And.intro @fcells_mk (And.intro @len_cells (And.intro @take_cells (And.intro @take_cellsC @str_toList))))))) ?_
    refine walkD (hT) ?_
    refine walkGF (And.intro @ncells_mk (And.intro hxp (And.intro hyp (And.intro @fcells_mk (And.intro @len_cells (And.intro @take_cells (And.intro @take_cellsC @str_toList))))))) ?_
    refine walkDF (@pureL_c) (hS) ?_
    refine walkG ?_
    refine VC.cond (by rfl) (by trivial) (fun hc2 => ?_) (fun hc2 => ?_)
    · have hne : x ≠ y := by
        rintro rfl
        simp [hu1, hu2, jeq_self] at hc2
      have hf : V = false := by
        rw [hv2, ceq_false]
        exact ne_at hx hy hne
      subst hf
      refine walkG ?_
      refine ⟨by first | exact .inr rfl | exact .inl rfl, ?_⟩; rw [Tryz.results56]; simp only [resOk, resV, go_sem, simprocAttr]
      exact .c _
    · have hxy : x = y := by
        have e := ceq_field x y
        simp only [Bool.or_eq_false_iff, bne_eq_false_iff_eq, Bool.not_eq_false', beq_iff_eq] at hc2
        obtain ⟨⟨⟨⟨g1, g2⟩, g3⟩, g4⟩, g5⟩ := hc2
        have g2 : x.aliases = y.aliases := by simpa [hu1] using g2
        rw [← ceq_iff, e, g1, g2, g3, g4, ← hu2, g5]
        simp
      refine walkGF (hw) ?_
      refine .next ⟨i + 1, by omega, take_nexty hx hy ht hxy⟩ ?_ (by simp only []; omega)
      simp only [ncells_mk, Weak, eq_self, used_is, sc_any, sc_c, sc_pp, sc_ref, sc_row, sc_agg, sc_fn, ScL, some_imp, List.forall_mem_map, go_sem, Int.reduceBEq, Int.reduceLE, Int.reduceLT, Int.reduceNeg, Nat.reduceAdd, Nat.reduceEqDiff, Nat.reduceLT, Nat.reduceLeDiff, Nat.reduceMul, Nat.reduceSub, reduceCtorEq, ↓reduceIte]
      try exact cI (by omega)
  · have hie : i = a.fields.length := by simp at hc; omega
    have hfe : a.fields = b.fields := take_end ht hie hff
    have hf : V = true := by
      rw [hv2, hfe, ceq_self]
    subst hf
    refine walkG ?_
    refine ⟨by first | exact .inr rfl | exact .inl rfl, ?_⟩; rw [Tryz.results56]; simp only [resOk, resV, go_sem, simprocAttr]
    exact .c _
end
end Go.Proofs.YtllnlmchjljhlaaGreatDoor
