/- Texts that lead to the law FingerSchemas, joined. -/
import Derived.Test.YtkaogeogjjcdhaaGreatDoorPkFingerSchemasG
import Derived.Test.YtkaogeogjjcdhaaGreatDoorPkFingerSchemasD
import Derived.Test.YtkaogeogjjcdhaaGreatDoorPkFingerSchemasH
import Derived.Test.YtkaogeogjjcdhaaGreatDoorPkFingerSchemasF
import Derived.Test.YtkaogeogjjcdhaaGreatDoorPkFingerSchemasXAbB
import Derived.Test.YtkaogeogjjcdhaaGreatDoorPkFingerSchemasB
import Derived.Test.YtkaogeogjjcdhaaGreatDoorPkFingerSchemasA
import Derived.Test.YtkaogeogjjcdhaaGreatDoorPkFingerSchemasC
import Derived.Test.YtkaogeogjjcdhaaGreatDoorPkFingerSchemasXTy
import Derived.Test.YtkaogeogjjcdhaaGreatDoorShelf
import Derived.Lib.SlBytesConst
import Derived.Lib.Hide
namespace Go.Proofs.YtkaogeogjjcdhaaGreatDoor
open Go.RowKit
set_option linter.unusedVariables false
set_option linter.unusedSimpArgs false
section
attribute [local go_sem] opx opE ev okx gcond bnd okO AV.get AV.okb cAV upd_at putd_some putd_none wrs_nil wrs_cons look_nil look_cons st argT_at bpick_and bpick_or bpick_true bpick_false binV binI binS binVOk binOk isShift binSOk unV unVOk loadV loadP cellsA zeroA Blkd.len setE grown moreA moreR moreOk eqRes pv fillA fillE putSeg AV.cellish AV.pureL AV.pureB lentL_is ex_some AV.ren AV.renL renL_c Blkd.ren rho wrM renN lentOk rhoE keepM endOk tyA_2 tyA_3 tyA_4 tyA_5 tyA_6 tyA_7 tyA_8 tyA_9 tyA_10 tyA_11 tyA_12 tyA_13 tyA_14 tyA_15 tyA_16 tyA_17 tyA_18 tyA_19 tyA_21 tyA_22 tyA_23 tyA_24 tyA_29 tyA_30 tyA_31 tyA_32 tyA_33 tyA_34 tyA_35 tyA_36 tyA_37 tyA_38 tyA_39 tyA_40 tyA_41 tyA_42 tyA_43 tyA_48 tyA_89 tyA_93 tyA_107 tyA_108 tyA_109 tyA_113 tyA_114 tyA_115 tyA_116 tyA_117 tyA_119 tyA_120 tyA_121 tyA_122 tyA_131 tyA_134 tyA_135 tyA_136 tyA_137 tyA_138 tyA_154 tyA_156 tyA_157 tyA_158 tyA_159 tyA_170 tyA_180 tyA_181 tyA_182 tyA_196 tyA_202 tyA_208 tyA_209 tyA_210 tyA_211 tyA_212 tyA_213 tyA_229 tyA_230 tyA_231 tyA_241 tyA_264 tyA_268 tyA_293 tyA_294 tyA_295 tyA_311 tyA_313 tyA_321 tyA_326 tyA_334 tyA_338 tyA_340 tyA_343 tyA_344 tyA_345 tyA_346 tyA_347 tyA_348 tyA_349 tyA_351 tyA_352 Option.map_some Option.map_none Option.getD_some Option.getD_none Option.bind_some Option.bind_none List.getElem?_cons_zero List.getElem?_cons_succ List.getElem?_nil List.getElem?_toArray List.length_cons List.length_nil List.length_map List.forall_mem_map List.map_cons List.map_nil List.drop_zero List.drop_succ_cons List.drop_nil List.take_zero List.take_succ_cons List.take_nil List.mem_cons List.not_mem_nil or_false forall_eq_or_imp forall_eq List.set_cons_zero List.set_cons_succ List.cons_append List.nil_append List.append_nil List.foldl_cons List.foldl_nil List.replicate_succ List.replicate_zero List.all_cons List.all_nil if_true if_false Bool.false_eq_true ne_eq not_false_eq_true not_true_eq_false true_and and_true and_self true_implies imp_self implies_true forall_const beq_self_eq_true Bool.and_true Bool.true_and Bool.and_false Bool.false_and Bool.or_true Bool.true_or Bool.or_false Bool.false_or Bool.not_true Bool.not_false Bool.not_eq_eq_eq_not intKindOf Value.oneCell' Int.toNat_natCast beq_true beq_false Bool.not_eq_true false_implies false_or true_or or_true Nat.zero_add Nat.add_zero decide_true decide_false Int.cast_ofNat_Int Int.toNat_zero Int.toNat_one eq_self

def partN (n : NT) : NT := ⟨n.kind, if namedK n.kind = true then n.name else [], if namedK n.kind = true then n.aliases else [], if n.kind = 9 then n.fields else [], if n.kind = 10 then n.symbols else [], if n.kind = 10 then n.has else false,
  if n.kind = 10 then n.dflt else [], if n.kind = 14 then n.size else 0, if n.kind = 11 ∨ n.kind = 12 then n.items else 0, if n.kind = 13 then n.branches else []⟩
theorem bareM_part (n : NT) : bareM n = ceq n (partN n) := by
  obtain ⟨k, a, b, c, d, e, f, g, h, i⟩ := n
  rw [Bool.eq_iff_iff, ceq_iff, partN, NT.mk.injEq, bareM]
  simp only [Bool.and_eq_true, Bool.or_eq_true, List.isEmpty_iff, beq_iff_eq, Bool.not_eq_true', true_and]
  constructor
  · rintro ⟨h1, h2, h3, h4, h5, h6⟩
    refine ⟨?_, ?_, ?_, ?_, ?_, ?_, ?_, ?_, ?_⟩
    · split
      · rfl
      · rename_i hn
        rcases h1 with h1 | h1
        · exact absurd h1 hn
        · exact h1.1
    · split
      · rfl
      · rename_i hn
        rcases h1 with h1 | h1
        · exact absurd h1 hn
        · exact h1.2
    · split
      · rfl
      · rename_i hn
        rcases h2 with h2 | h2
        · exact absurd h2 hn
        · exact h2
    · split
      · rfl
      · rename_i hn
        rcases h3 with h3 | h3
        · exact absurd h3 hn
        · exact h3.1
    · split
      · rfl
      · rename_i hn
        rcases h3 with h3 | h3
        · exact absurd h3 hn
        · exact h3.2.1
    · split
      · rfl
      · rename_i hn
        rcases h3 with h3 | h3
        · exact absurd h3 hn
        · exact h3.2.2
    · split
      · rfl
      · rename_i hn
        rcases h4 with h4 | h4
        · exact absurd h4 hn
        · exact h4
    · split
      · rfl
      · rename_i hn
        rcases h5 with (h5 | h5) | h5
        · exact absurd (.inl h5) hn
        · exact absurd (.inr h5) hn
        · exact h5
    · split
      · rfl
      · rename_i hn
        rcases h6 with h6 | h6
        · exact absurd h6 hn
        · exact h6
  · rintro ⟨h1, h2, h3, h4, h5, h6, h7, h8, h9⟩
    refine ⟨?_, ?_, ?_, ?_, ?_, ?_⟩
    · by_cases hn : namedK k = true
      · exact .inl hn
      · rw [if_neg hn] at h1 h2
        exact .inr ⟨h1, h2⟩
    · by_cases hn : k = 9
      · exact .inl hn
      · rw [if_neg hn] at h3
        exact .inr h3
    · by_cases hn : k = 10
      · exact .inl hn
      · rw [if_neg hn] at h4 h5 h6
        exact .inr ⟨h4, h5, h6⟩
    · by_cases hn : k = 14
      · exact .inl hn
      · rw [if_neg hn] at h7
        exact .inr h7
    · by_cases hn : k = 11 ∨ k = 12
      · rcases hn with hn | hn
        · exact .inl (.inl hn)
        · exact .inl (.inr hn)
      · rw [if_neg hn] at h8
        exact .inr h8
    · by_cases hn : k = 13
      · exact .inl hn
      · rw [if_neg hn] at h9
        exact .inr h9
theorem branchesM_snoc {ns : List NT} : ∀ (l d : List Int) (k : Int), branchesM ns d (l ++ [k]) = (branchesM ns d l && branchM ns (d ++ l) k)
  | [], d, k => by simp [branchesM]
  | x :: l, d, k => by
    rw [List.cons_append, branchesM, branchesM, branchesM_snoc l (d ++ [x]) k, Bool.and_assoc, List.append_assoc]
    rfl
theorem rsame10_told (a b : NT) : Told Tryz.prog 212 [a.av, b.av] (.c (.v (.bool (ceq a b)))) := by
  have hO := rone_told a b
  obtain ⟨V, hV⟩ : ∃ V, V = ceq a b := ⟨_, rfl⟩
  rw [← hV] at hO ⊢
  simp only [NT.av_eq] at hO
  rw [NT.av_eq, NT.av_eq]
  refine VC.told ent_212 Tryz.func212 rfl Tryz.ntmps212 (by simp) (by first | rfl | simp [AV.pureB, AV.pureL, pureL_c, pures]) (by first | rfl | simp [AV.pureB, AV.pureL, pureL_c, pures]) fun hb => ?_
  clear hb
  refine walkGF (And.intro @len_ncells (And.intro @take_ncells @take_ncellsC)) ?_
  refine walkCF (@pureL_c) (hO) ?_
  refine walkG ?_
  refine ⟨by first | exact .inr rfl | exact .inl rfl, ?_⟩; rw [Tryz.results212]; simp only [resOk, resV, go_sem, Int.reduceBEq, Int.reduceLE, Int.reduceLT, Int.reduceNeg, Nat.reduceAdd, Nat.reduceEqDiff, Nat.reduceLT, Nat.reduceLeDiff, Nat.reduceMul, Nat.reduceSub, reduceCtorEq, ↓reduceIte]
  exact .c _
def okN (n : NT) : Bool := !namedK n.kind || (fullM n.name && (kindM n.name == 0 && allM fullM n.aliases))
set_option maxRecDepth 100000 in
set_option maxHeartbeats 3200000 in
theorem rnode_told (s : ST) (n : NT) (hsm : n.sm 1000000) (hbr : n.kind = 13 → ∀ k ∈ n.branches, 0 ≤ k ∧ k < (s.nodes.length : Int)) (hdp : ∀ f ∈ n.fields, tdeep f.dflt ≤ 1000) : Told Tryz.prog 124 [s.av, n.av] (.c (.v (.bool (nodeM s.nodes n)))) := by
  obtain ⟨V, hV⟩ : ∃ V, V = nodeM s.nodes n := ⟨_, rfl⟩
  rw [← hV]
  unfold nodeM at hV
  obtain ⟨hn1, hn2, ⟨ha1, ha2⟩, ⟨hs1, hs2⟩, hb1, hf1, hf2⟩ := hsm
  have hN := rnamed10_told n.kind
  have hF := rfull_told n.name (by omega)
  have hKd := rkind_told n.name
  have hSame := rsame10_told n (partN n)
  rw [← bareM_part] at hSame
  have hpart : partN n = partN n := rfl
  obtain ⟨bB, hBB⟩ : ∃ b, b = bareM n := ⟨_, rfl⟩
  rw [← hBB] at hV hSame
  obtain ⟨X, hX⟩ : ∃ X, X = okN n := ⟨_, rfl⟩
  have hX0 := hX
  unfold okN at hX0
  rw [← hX0] at hV
  obtain ⟨bF, hFF⟩ : ∃ b, b = fullM n.name := ⟨_, rfl⟩
  obtain ⟨kK, hKK⟩ : ∃ b, b = kindM n.name := ⟨_, rfl⟩
  rw [← hFF] at hX0 hF
  rw [← hKK] at hX0 hKd
  rw [NT.av_eq, ncells_mk, ST.av_eq, scells_mk]
  simp only [NT.av_eq] at hSame
  refine VC.told ent_124 Tryz.func124 rfl Tryz.ntmps124 (by simp) (by first | rfl | simp [AV.pureB, AV.pureL, pureL_c, pures]) (by first | rfl | simp [AV.pureB, AV.pureL, pureL_c, pures]) fun hb => ?_
  clear hb
  (refine VC.seq ?_; (first | refine VC.region (by rfl) (by rfl) ?_ | refine VC.draw mixP (by rfl) (by rfl) ?_); (repeat (refine AO.step fun K hK => ?_; simp only [go_sem, Int.reduceBEq, Int.reduceLE, Int.reduceLT, Int.reduceNeg, Nat.reduceAdd, Nat.reduceEqDiff, Nat.reduceLT, Nat.reduceLeDiff, Nat.reduceMul, Nat.reduceSub, reduceCtorEq, ↓reduceIte]; (first | refine gsel_skip ?_ | refine gsel_go ?_ | skip); (first | refine hK _ _ _ ?_ | refine ⟨by first | omega | exact ⟨_, rfl, rfl⟩ | exact fun _ => ⟨_, rfl, rfl⟩ | (intro h; simp only [h, true_and]; omega) | (clear hK; intro h; simp_all <;> omega), hK _ _ _ ?_⟩); clear hK K)); refine AO.nil ?_; first | refine SQ.normal ?_ | refine ⟨okd_of (by kernel_rfl), SQ.normal ?_⟩)
  (refine VC.seq ?_; (first | refine VC.region (by rfl) (by rfl) ?_ | refine VC.draw mixP (by rfl) (by rfl) ?_); (repeat (refine AO.step fun K hK => ?_; simp only [go_sem, Int.reduceBEq, Int.reduceLE, Int.reduceLT, Int.reduceNeg, Nat.reduceAdd, Nat.reduceEqDiff, Nat.reduceLT, Nat.reduceLeDiff, Nat.reduceMul, Nat.reduceSub, reduceCtorEq, ↓reduceIte]; (first | refine gsel_skip ?_ | refine gsel_go ?_ | skip); (first | refine hK _ _ _ ?_ | refine ⟨by first | omega | exact ⟨_, rfl, rfl⟩ | exact fun _ => ⟨_, rfl, rfl⟩ | (intro h; simp only [h, true_and]; omega) | (clear hK; intro h; simp_all <;> omega), hK _ _ _ ?_⟩); clear hK K)); refine AO.nil ?_; first | refine SQ.normal ?_ | refine ⟨okd_of (by kernel_rfl), SQ.normal ?_⟩)
  refine VC.frz [] [(2, .ref 0 1 0 0), (3, .ref 8 1 0 0), (5, .ref 48 1 0 0)] [(0, ⟨false, 24, 2, [s.cells.map .c]⟩), (8, ⟨false, 33, 10, [n.cells.map .c]⟩), (48, ⟨false, 33, 10, [(⟨n.kind, [], [], [], [], false, [], 0, 0, []⟩ : NT).cells.map .c]⟩)] 400 ?_ ?_
  · simp only [ncells_mk, scells_mk, WeakF, used_is, sc_any, sc_c, sc_pp, sc_ref, sc_row, sc_agg, sc_fn, ScL, some_imp, List.forall_mem_map, go_sem, Int.reduceBEq, Int.reduceLE, Int.reduceLT, Int.reduceNeg, Nat.reduceAdd, Nat.reduceEqDiff, Nat.reduceLT, Nat.reduceLeDiff, Nat.reduceMul, Nat.reduceSub, reduceCtorEq, ↓reduceIte]
    exact ⟨⟨.same _, .same _, .same _⟩, .same _, .same _, .one (.cons (.same _) (.cons (.same _) (.cons (.nil 1) (.cons (.nil 9) (.cons (.nil 1) (.cons (.same _) (.cons (.same _) (.cons (.same _) (.cons (.same _) (.cons (.nil 1) .nil)))))))))) (by simp [AV.cellish])⟩
  refine walkGF (And.intro @ncells_mk @scells_mk) ?_
  refine walkC (hN) ?_
  refine walkG ?_
  refine VC.meetF (ι := {u : Unit // X = true}) (fun _ => [(2, .ref 0 1 0 0), (3, .ref 8 1 0 0), (5, .ref 48 1 0 0)]) (fun _ => [(0, ⟨false, 24, 2, [s.cells.map .c]⟩), (8, ⟨false, 33, 10, [n.cells.map .c]⟩), (48, ⟨false, 33, 10, [(⟨n.kind, (partN n).name, (partN n).aliases, [], [], false, [], 0, 0, []⟩ : NT).cells.map .c]⟩)]) 4000 ?_ ?_
  · refine VC.cond (by rfl) (by trivial) (fun hc => ?_) (fun hc => ?_)
    · have hpn : (partN n).name = n.name := by simp [partN, hc]
      have hpa : (partN n).aliases = n.aliases := by simp [partN, hc]
      rw [hc, Bool.not_true, Bool.false_or] at hX0
      refine walkGF (And.intro @ncells_mk @scells_mk) ?_
      refine walkC (hF) ?_
      refine walkGF (@ncells_mk) ?_
      refine walkD (hKd) ?_
      refine walkGF (@ncells_mk) ?_
      refine VC.cond (by rfl) (by trivial) (fun hc2 => ?_) (fun hc2 => ?_)
      · have hf : V = false := by
          have : X = false := by
            rw [hX0, allM]
            cases bF with
            | false => rfl
            | true =>
              cases hk0 : kK == 0 with
              | false => simp
              | true =>
                have hk1 : kK = 0 := by simpa using hk0
                have hl : ¬ n.aliases.length ≤ 40 := by
                  simp [hk1] at hc2
                  omega
                simp [hl]
          rw [hV, this]
          simp
        subst hf
        refine walkG ?_
        refine ⟨by first | exact .inr rfl | exact .inl rfl, ?_⟩; rw [Tryz.results124]; simp only [resOk, resV, go_sem, Int.reduceBEq, Int.reduceLE, Int.reduceLT, Int.reduceNeg, Nat.reduceAdd, Nat.reduceEqDiff, Nat.reduceLT, Nat.reduceLeDiff, Nat.reduceMul, Nat.reduceSub, reduceCtorEq, ↓reduceIte]
        exact .c _
      · obtain ⟨hbf, hk0, hl40⟩ : bF = true ∧ kK = 0 ∧ n.aliases.length ≤ 40 := by
          cases bF <;> simp at hc2 ⊢
          omega
        have hXa : X = n.aliases.all fullM := by
          rw [hX0, allM, hbf, hk0]
          simp [hl40]
        refine walkG ?_
        refine VC.loop (ι := {i : Nat // i ≤ n.aliases.length ∧ ∀ (j : Nat) (x : List UInt8), j < i → n.aliases[j]? = some x → fullM x = true}) (fun q => [(2, .ref 0 1 0 0), (3, .ref 8 1 0 0), (5, .ref 48 1 0 0), (6, .c (.v (.int .i64 (q.1 : Int))))])
          (fun _ => [(0, ⟨false, 24, 2, [s.cells.map .c]⟩), (8, ⟨false, 33, 10, [n.cells.map .c]⟩), (48, ⟨false, 33, 10, [(⟨n.kind, n.name, n.aliases, [], [], false, [], 0, 0, []⟩ : NT).cells.map .c]⟩)]) 2000 (fun q => n.aliases.length - q.1) ⟨0, Nat.zero_le _, fun j x h => by omega⟩ ?_ ?_
        · simp only [ncells_mk, scells_mk, Weak, eq_self, used_is, sc_any, sc_c, sc_pp, sc_ref, sc_row, sc_agg, sc_fn, ScL, some_imp, List.forall_mem_map, go_sem, Int.reduceBEq, Int.reduceLE, Int.reduceLT, Int.reduceNeg, Nat.reduceAdd, Nat.reduceEqDiff, Nat.reduceLT, Nat.reduceLeDiff, Nat.reduceMul, Nat.reduceSub, reduceCtorEq, ↓reduceIte]
          done
        rintro ⟨i, hi, ht⟩
        simp only []
        refine walkGF (@ncells_mk) ?_
        refine VC.cond (by rfl) (by trivial) (fun hc3 => ?_) (fun hc3 => ?_)
        · have hlt : i < n.aliases.length := by simp at hc3; omega
          obtain ⟨x, hx⟩ : ∃ x, n.aliases[i]? = some x := ⟨n.aliases[i], List.getElem?_eq_getElem hlt⟩
          have hw : IntKind.i64.wrap ((i : Int) + 1) = (i : Int) + 1 := wrap64_id (by omega) (by omega)
          have hxp : (n.aliases.map sPV)[i]? = some (sPV x) := by rw [List.getElem?_map, hx]; rfl
          have hFx := rfull_told x (by have := ha2 x (List.mem_of_getElem? hx); omega)
          refine walkGF (And.intro @ncells_mk (And.intro hxp @sPV_eq)) ?_
          refine walkC (hFx) ?_
          refine walkG ?_
          refine VC.cond (by rfl) (by trivial) (fun hc4 => ?_) (fun hc4 => ?_)
          · have hf : V = false := by
              have : X = false := by
                rw [hXa, List.all_eq_false]
                exact ⟨x, List.mem_of_getElem? hx, by simpa using hc4⟩
              rw [hV, this]
              simp
            subst hf
            refine walkG ?_
            refine ⟨by first | exact .inr rfl | exact .inl rfl, ?_⟩; rw [Tryz.results124]; simp only [resOk, resV, go_sem, Int.reduceBEq, Int.reduceLE, Int.reduceLT, Int.reduceNeg, Nat.reduceAdd, Nat.reduceEqDiff, Nat.reduceLT, Nat.reduceLeDiff, Nat.reduceMul, Nat.reduceSub, reduceCtorEq, ↓reduceIte]
            exact .c _
          · have hfx : fullM x = true := by simpa using hc4
            refine walkGF (hw) ?_
            refine .next ⟨i + 1, by omega, ?_⟩ ?_ (by simp only []; omega)
            · intro j y hj hy
              by_cases hji : j < i
              · exact ht j y hji hy
              · obtain rfl : j = i := by omega
                rw [hx] at hy
                obtain rfl := Option.some.inj hy
                exact hfx
            simp only [ncells_mk, scells_mk, Weak, eq_self, used_is, sc_any, sc_c, sc_pp, sc_ref, sc_row, sc_agg, sc_fn, ScL, some_imp, List.forall_mem_map, go_sem, Int.reduceBEq, Int.reduceLE, Int.reduceLT, Int.reduceNeg, Nat.reduceAdd, Nat.reduceEqDiff, Nat.reduceLT, Nat.reduceLeDiff, Nat.reduceMul, Nat.reduceSub, reduceCtorEq, ↓reduceIte]
            exact cI (by omega)
        · have hie : i = n.aliases.length := by simp at hc3; omega
          have hXt : X = true := by
            rw [hXa, List.all_eq_true]
            intro y hy
            obtain ⟨j, hj⟩ := List.getElem?_of_mem hy
            exact ht j y (by have := (List.getElem?_eq_some_iff.1 hj).1; omega) hj
          refine walkG ?_
          refine .normal ⟨(), hXt⟩ ?_
          simp only [ncells_mk, scells_mk, hpn, hpa, Weak, eq_self, used_is, sc_any, sc_c, sc_pp, sc_ref, sc_row, sc_agg, sc_fn, ScL, some_imp, List.forall_mem_map, go_sem, Int.reduceBEq, Int.reduceLE, Int.reduceLT, Int.reduceNeg, Nat.reduceAdd, Nat.reduceEqDiff, Nat.reduceLT, Nat.reduceLeDiff, Nat.reduceMul, Nat.reduceSub, reduceCtorEq, ↓reduceIte]
          done
    · have hpn : (partN n).name = [] := by simp [partN, hc]
      have hpa : (partN n).aliases = [] := by simp [partN, hc]
      refine walkG ?_
      refine .normal ⟨(), by rw [hX0, hc]; rfl⟩ ?_
      simp only [ncells_mk, scells_mk, hpn, hpa, Weak, eq_self, used_is, sc_any, sc_c, sc_pp, sc_ref, sc_row, sc_agg, sc_fn, ScL, some_imp, List.forall_mem_map, go_sem, Int.reduceBEq, Int.reduceLE, Int.reduceLT, Int.reduceNeg, Nat.reduceAdd, Nat.reduceEqDiff, Nat.reduceLT, Nat.reduceLeDiff, Nat.reduceMul, Nat.reduceSub, reduceCtorEq, ↓reduceIte]
      done
  rintro ⟨_, hXt⟩
  rw [hXt, Bool.true_and] at hV
  clear hX hX0 hXt hN hF hKd hFF hKK ha2
  (refine VC.seq ?_; (first | refine VC.region (by rfl) (by rfl) ?_ | refine VC.draw mixP (by rfl) (by rfl) ?_); (repeat (refine AO.step fun K hK => ?_; simp only [ncells_mk, go_sem, Int.reduceBEq, Int.reduceLE, Int.reduceLT, Int.reduceNeg, Nat.reduceAdd, Nat.reduceEqDiff, Nat.reduceLT, Nat.reduceLeDiff, Nat.reduceMul, Nat.reduceSub, reduceCtorEq, ↓reduceIte]; (first | refine gsel_skip ?_ | refine gsel_go ?_ | skip); (first | refine hK _ _ _ ?_ | refine ⟨by first | omega | exact ⟨_, rfl, rfl⟩ | exact fun _ => ⟨_, rfl, rfl⟩ | (intro h; simp only [ncells_mk, h, true_and]; omega) | (clear hK; intro h; simp_all <;> omega), hK _ _ _ ?_⟩); clear hK K)); refine AO.nil ?_; first | refine SQ.normal ?_ | refine ⟨okd_of (by kernel_rfl), SQ.normal ?_⟩)
  refine VC.seq ?_
  refine VC.meetF (ι := {ok : Bool // V = (ok && bB)}) (fun q => [(2, .ref 0 1 0 0), (3, .ref 8 1 0 0), (5, .ref 48 1 0 0), (7, .c (.v (.bool q.1)))]) (fun _ => [(0, ⟨false, 24, 2, [s.cells.map .c]⟩), (8, ⟨false, 33, 10, [n.cells.map .c]⟩), (48, ⟨false, 33, 10, [(partN n).cells.map .c]⟩)]) 8000 ?_ ?_
  rotate_left
  · rintro ⟨ok, hok⟩
    simp only []
    simp only [ncells_mk, List.map_cons, List.map_nil] at hSame
    refine walkGF (And.intro @ncells_mk @scells_mk) ?_
    refine walkD (hSame) ?_
    refine walkG ?_
    refine ⟨by first | exact .inr rfl | exact .inl rfl, ?_⟩; rw [Tryz.results124]; simp only [resOk, resV, go_sem, Int.reduceBEq, Int.reduceLE, Int.reduceLT, Int.reduceNeg, Nat.reduceAdd, Nat.reduceEqDiff, Nat.reduceLT, Nat.reduceLeDiff, Nat.reduceMul, Nat.reduceSub, reduceCtorEq, ↓reduceIte]
    rw [hok]
    exact .c _
  by_cases h9 : n.kind = 9
  · rw [h9] at hV
    have e9 : (n.kind == 9) = true := by simpa using h9
    have o1 : decide (n.kind ≥ 1) = true := by rw [h9]; rfl
    have o2 : decide (n.kind ≤ 14) = true := by rw [h9]; rfl
    have hV9 : V = (fieldsM n.fields && bB) := by rw [hV]; simp [Bool.and_comm]
    clear hV
    have pk : (partN n).kind = n.kind := rfl
    have pf : (partN n).fields = n.fields := by simp [partN, h9]
    have ps : (partN n).symbols = [] := by simp [partN, h9]
    have ph : (partN n).has = false := by simp [partN, h9]
    have pd : (partN n).dflt = [] := by simp [partN, h9]
    have pz : (partN n).size = 0 := by simp [partN, h9]
    have pi : (partN n).items = 0 := by simp [partN, h9]
    have pb : (partN n).branches = [] := by simp [partN, h9]
    refine walkBF (And.intro @ncells_mk e9) ?_
    refine VC.nil 8 9 1 (by rfl) (by trivial) (by rfl) ?_
    refine VC.loop (ι := {i : Nat // i ≤ n.fields.length}) (fun q => [(2, .ref 0 1 0 0), (3, .ref 8 1 0 0), (5, .ref 48 1 0 0), (7, .c (.v (.bool ((n.fields.take q.1).all fieldM)))), (8, .row 4152 q.1), (9, .c (.v (.int .i64 (q.1 : Int))))])
      (fun q => [(0, ⟨false, 24, 2, [s.cells.map .c]⟩), (8, ⟨false, 33, 10, [n.cells.map .c]⟩), (48, ⟨false, 33, 10, [(partN n).cells.map .c]⟩), (4152, ⟨true, 9, 1, rA sPV ((n.fields.map (·.name)).take q.1)⟩)]) 5000 (fun q => n.fields.length - q.1) ⟨0, Nat.zero_le _⟩ ?_ ?_
    · simp only [ncells_mk, scells_mk, rA_len, rA_sc, rA_nil, o1, o2, pk, pf, ps, ph, pd, pz, pi, pb, Weak, eq_self, used_is, sc_any, sc_c, sc_pp, sc_ref, sc_row, sc_agg, sc_fn, ScL, some_imp, List.forall_mem_map, go_sem, Int.reduceBEq, Int.reduceLE, Int.reduceLT, Int.reduceNeg, Nat.reduceAdd, Nat.reduceEqDiff, Nat.reduceLT, Nat.reduceLeDiff, Nat.reduceMul, Nat.reduceSub, reduceCtorEq, ↓reduceIte]
      done
    rintro ⟨i, hi⟩
    simp only []
    refine walkGF (And.intro @ncells_mk @scells_mk) ?_
    refine VC.cond (by rfl) (by trivial) (fun hc => ?_) (fun hc => ?_)
    · have hlt : i < n.fields.length := by simp at hc; omega
      obtain ⟨f, hx⟩ : ∃ f, n.fields[i]? = some f := ⟨n.fields[i], List.getElem?_eq_getElem hlt⟩
      have hw : IntKind.i64.wrap ((i : Int) + 1) = (i : Int) + 1 := wrap64_id (by omega) (by omega)
      have hxp : (n.fields.map FT.cells)[i]? = some f.cells := by rw [List.getElem?_map, hx]; rfl
      have hln : (rA sPV ((n.fields.map (·.name)).take i)).length = i := by rw [rA_len]; simp; omega
      have hr : rA sPV ((n.fields.map (·.name)).take i) ++ [[.c (.v (.string (str f.name)))]] = rA sPV ((n.fields.map (·.name)).take (i + 1)) := by
        rw [List.take_add_one, List.getElem?_map, hx]
        exact rA_one sPV _ f.name
      have hl2 : (rA sPV ((n.fields.map (·.name)).take (i + 1))).length = i + 1 := by rw [rA_len]; simp; omega
      obtain ⟨g1, g2, g3, g4⟩ := hf2 f (List.mem_of_getElem? hx)
      have hA := rsimples_told f.aliases (by omega) fun x hx => by have := g3 x hx; omega
      have hR := rright_told f.dflt (sm_le (by omega) _ g4) (hdp f (List.mem_of_getElem? hx))
      have hS := rsame_told _ f.dflt jzero (Nat.le_refl _)
      simp only [JT.av] at hR
      have hM : fieldM f = (allM simpleM f.aliases && ((f.has && jR f.dflt) || (!f.has && jeq f.dflt jzero))) := by
        unfold fieldM
        cases f.has <;> simp
      have hnx : (n.fields.take (i + 1)).all fieldM = ((n.fields.take i).all fieldM && fieldM f) := by
        rw [List.take_add_one, hx, List.all_append]
        simp
      obtain ⟨b0, hb0⟩ : ∃ b, b = (n.fields.take i).all fieldM := ⟨_, rfl⟩
      obtain ⟨b1, hb1⟩ : ∃ b, b = allM simpleM f.aliases := ⟨_, rfl⟩
      obtain ⟨b2, hb2⟩ : ∃ b, b = jR f.dflt := ⟨_, rfl⟩
      obtain ⟨b3, hb3⟩ : ∃ b, b = jeq f.dflt jzero := ⟨_, rfl⟩
      rw [hM, ← hb0, ← hb1, ← hb2, ← hb3] at hnx
      rw [← hb0]
      rw [← hb1] at hA
      rw [← hb2] at hR
      rw [← hb3] at hS
      clear hM hb0 hb1 hb2 hb3
      cases hfh : f.has with
      | true =>
        rw [hfh] at hnx
        replace hnx := Lib.hid hnx
        refine walkGF (And.intro @ncells_mk (And.intro @scells_mk (And.intro hxp (And.intro @fcells_mk (And.intro @len_cells (And.intro @take_cells (And.intro @take_cellsC (And.intro hln (And.intro hr hfh))))))))) ?_
        refine walkD (hA) ?_
        refine walkGF (And.intro @fcells_mk (And.intro @len_cells (And.intro @take_cells (And.intro @take_cellsC hfh)))) ?_
        refine walkDF (@pureL_c) (hR) ?_
        refine walkGF (And.intro hfh hw) ?_
        refine .next ⟨i + 1, by omega⟩ ?_ (by simp only []; omega)
        simp only [ncells_mk, scells_mk, hl2, rA_sc, hnx.out, Bool.and_assoc, Weak, eq_self, used_is, sc_any, sc_c, sc_pp, sc_ref, sc_row, sc_agg, sc_fn, ScL, some_imp, List.forall_mem_map, go_sem, Int.reduceBEq, Int.reduceLE, Int.reduceLT, Int.reduceNeg, Nat.reduceAdd, Nat.reduceEqDiff, Nat.reduceLT, Nat.reduceLeDiff, Nat.reduceMul, Nat.reduceSub, reduceCtorEq, ↓reduceIte]
        exact ⟨cI (by omega), Nat.le_refl _⟩
      | false =>
        rw [hfh] at hnx
        replace hnx := Lib.hid hnx
        refine walkGF (And.intro @ncells_mk (And.intro @scells_mk (And.intro hxp (And.intro @fcells_mk (And.intro @len_cells (And.intro @take_cells (And.intro @take_cellsC (And.intro hln (And.intro hr hfh))))))))) ?_
        refine walkD (hA) ?_
        refine walkGF (And.intro @fcells_mk (And.intro @len_cells (And.intro @take_cells (And.intro @take_cellsC hfh)))) ?_
        (refine AO.step fun K hK => ?_; simp only [go_sem, Int.reduceBEq, Int.reduceLE, Int.reduceLT, Int.reduceNeg, Nat.reduceAdd, Nat.reduceEqDiff, Nat.reduceLT, Nat.reduceLeDiff, Nat.reduceMul, Nat.reduceSub, reduceCtorEq, ↓reduceIte]; (first | refine gsel_go ?_ | skip))
        refine .inr (.inl ⟨.c (.v (.bool b3)), [f.dflt.av, jzero.av], [], fun hg => ⟨hg, by simp [AV.pureL, AV.pureB, JT.av, pureL_c], rfl, fun k x z h5 h6 => ?_, rfl, hS⟩, hK _ _ _ ?_⟩)
        · match k with
          | 0 => obtain rfl := Option.some.inj h5; obtain rfl := Option.some.inj h6; exact .same _
          | 1 => obtain rfl := Option.some.inj h5; obtain rfl := Option.some.inj h6; exact view_jzero _
          | k + 2 => simp at h5
        clear hK K
        refine walkGF (And.intro hfh hw) ?_
        refine .next ⟨i + 1, by omega⟩ ?_ (by simp only []; omega)
        simp only [ncells_mk, scells_mk, hl2, rA_sc, hnx.out, Bool.and_assoc, Weak, eq_self, used_is, sc_any, sc_c, sc_pp, sc_ref, sc_row, sc_agg, sc_fn, ScL, some_imp, List.forall_mem_map, go_sem, Int.reduceBEq, Int.reduceLE, Int.reduceLT, Int.reduceNeg, Nat.reduceAdd, Nat.reduceEqDiff, Nat.reduceLT, Nat.reduceLeDiff, Nat.reduceMul, Nat.reduceSub, reduceCtorEq, ↓reduceIte]
        exact ⟨cI (by omega), Nat.le_refl _⟩
    · have hie : i = n.fields.length := by simp at hc; omega
      have htk : (n.fields.map (·.name)).take i = n.fields.map (·.name) := List.take_of_length_le (by simp; omega)
      have htf : n.fields.take i = n.fields := List.take_of_length_le (by omega)
      rw [htk, htf]
      have hrl : (rA sPV (n.fields.map (·.name))).length = i := by rw [rA_len]; simp; omega
      have hA := rsimples_told (n.fields.map (·.name)) (by simp; omega) fun x hx => by
        obtain ⟨f, hf, rfl⟩ := List.mem_map.1 hx
        have := (hf2 f hf).1
        omega
      have hO := ronce_told (n.fields.map (·.name)) (by simp; omega)
      have hFi : fieldsM n.fields = ((n.fields.all fieldM && allM simpleM (n.fields.map (·.name))) && decide (n.fields.map (·.name)).Nodup) := by
        unfold fieldsM diffM allM
        simp [Bool.and_assoc]
      obtain ⟨b0, hb0⟩ : ∃ b, b = n.fields.all fieldM := ⟨_, rfl⟩
      obtain ⟨b1, hb1⟩ : ∃ b, b = allM simpleM (n.fields.map (·.name)) := ⟨_, rfl⟩
      obtain ⟨b2, hb2⟩ : ∃ b, b = decide (n.fields.map (·.name)).Nodup := ⟨_, rfl⟩
      rw [← hb0, ← hb1, ← hb2] at hFi
      rw [← hb0]
      rw [← hb1] at hA
      rw [← hb2] at hO
      clear hb0 hb1 hb2
      replace hFi := Lib.hid hFi
      refine walkGF (And.intro @ncells_mk (And.intro @scells_mk hrl)) ?_
      (refine AO.step fun K hK => ?_; simp only [go_sem, Int.reduceBEq, Int.reduceLE, Int.reduceLT, Int.reduceNeg, Nat.reduceAdd, Nat.reduceEqDiff, Nat.reduceLT, Nat.reduceLeDiff, Nat.reduceMul, Nat.reduceSub, reduceCtorEq, ↓reduceIte, hrl]; (first | refine gsel_go ?_ | skip))
      refine .inr (.inl ⟨.c (.v (.bool b1)), [.c (.sl 1 ((n.fields.map (·.name)).map sPV))], [4152], fun hg => ⟨hg, by simp [AV.pureL, AV.pureB], rfl, fun k x z h5 h6 => ?_, rfl, hA⟩, hK _ _ _ ?_⟩)
      · match k with
        | 0 =>
          obtain rfl := Option.some.inj h5
          obtain rfl := Option.some.inj h6
          exact View.row (B := ⟨true, 9, 1, rA sPV (n.fields.map fun f : FT => f.name)⟩) (es := (n.fields.map fun f : FT => f.name).map sPV) rfl rfl hrl (rA_pv _ _)
        | k + 1 => simp at h5
      clear hK K
      refine walkGF (hrl) ?_
      (refine AO.step fun K hK => ?_; simp only [go_sem, Int.reduceBEq, Int.reduceLE, Int.reduceLT, Int.reduceNeg, Nat.reduceAdd, Nat.reduceEqDiff, Nat.reduceLT, Nat.reduceLeDiff, Nat.reduceMul, Nat.reduceSub, reduceCtorEq, ↓reduceIte, hrl]; (first | refine gsel_go ?_ | skip))
      refine .inr (.inl ⟨.c (.v (.bool b2)), [.c (.sl 1 ((n.fields.map (·.name)).map sPV))], [4152], fun hg => ⟨hg, by simp [AV.pureL, AV.pureB], rfl, fun k x z h5 h6 => ?_, rfl, hO⟩, hK _ _ _ ?_⟩)
      · match k with
        | 0 =>
          obtain rfl := Option.some.inj h5
          obtain rfl := Option.some.inj h6
          exact View.row (B := ⟨true, 9, 1, rA sPV (n.fields.map fun f : FT => f.name)⟩) (es := (n.fields.map fun f : FT => f.name).map sPV) rfl rfl hrl (rA_pv _ _)
        | k + 1 => simp at h5
      clear hK K
      refine walkG ?_
      refine .normal ⟨(b0 && b1) && b2, by rw [hV9, hFi.out]⟩ ?_
      simp only [ncells_mk, scells_mk, Weak, eq_self, used_is, sc_any, sc_c, sc_pp, sc_ref, sc_row, sc_agg, sc_fn, ScL, some_imp, List.forall_mem_map, go_sem, Int.reduceBEq, Int.reduceLE, Int.reduceLT, Int.reduceNeg, Nat.reduceAdd, Nat.reduceEqDiff, Nat.reduceLT, Nat.reduceLeDiff, Nat.reduceMul, Nat.reduceSub, reduceCtorEq, ↓reduceIte]
      done
  by_cases h10 : n.kind = 10
  · rw [h10] at hV
    have e9 : (n.kind == 9) = false := by simpa using h9
    have e10 : (n.kind == 10) = true := by simpa using h10
    have o1 : decide (n.kind ≥ 1) = true := by rw [h10]; rfl
    have o2 : decide (n.kind ≤ 14) = true := by rw [h10]; rfl
    have hV10 : V = ((((n.has == n.symbols.contains n.dflt) && (n.has || n.dflt.isEmpty)) && (decide (1 ≤ n.symbols.length) && (decide (n.symbols.length ≤ 40) && diffM simpleM n.symbols))) && bB) := by rw [hV]; simp [Bool.and_comm]
    clear hV
    have pk : (partN n).kind = n.kind := rfl
    have pf : (partN n).fields = [] := by simp [partN, h10]
    have ps : (partN n).symbols = n.symbols := by simp [partN, h10]
    have ph : (partN n).has = n.has := by simp [partN, h10]
    have pd : (partN n).dflt = n.dflt := by simp [partN, h10]
    have pz : (partN n).size = 0 := by simp [partN, h10]
    have pi : (partN n).items = 0 := by simp [partN, h10]
    have pb : (partN n).branches = [] := by simp [partN, h10]
    have hE : (⟨#[]⟩ : ByteArray).toList = [] := str_toList []
    refine walkBF (And.intro @ncells_mk (And.intro e9 e10)) ?_
    refine VC.loop (ι := {i : Nat // i ≤ n.symbols.length}) (fun q => [(2, .ref 0 1 0 0), (3, .ref 8 1 0 0), (5, .ref 48 1 0 0), (7, .c (.v (.bool true))), (11, .c (.v (.bool ((n.symbols.take q.1).contains n.dflt)))), (12, .c (.v (.int .i64 (q.1 : Int))))])
      (fun q => [(0, ⟨false, 24, 2, [s.cells.map .c]⟩), (8, ⟨false, 33, 10, [n.cells.map .c]⟩), (48, ⟨false, 33, 10, [(partN n).cells.map .c]⟩)]) 5000 (fun q => n.symbols.length - q.1) ⟨0, Nat.zero_le _⟩ ?_ ?_
    · simp only [ncells_mk, scells_mk, o1, o2, pk, pf, ps, ph, pd, pz, pi, pb, Weak, eq_self, used_is, sc_any, sc_c, sc_pp, sc_ref, sc_row, sc_agg, sc_fn, ScL, some_imp, List.forall_mem_map, go_sem, Int.reduceBEq, Int.reduceLE, Int.reduceLT, Int.reduceNeg, Nat.reduceAdd, Nat.reduceEqDiff, Nat.reduceLT, Nat.reduceLeDiff, Nat.reduceMul, Nat.reduceSub, reduceCtorEq, ↓reduceIte]
      simp
    rintro ⟨i, hi⟩
    simp only []
    refine walkGF (And.intro @ncells_mk @scells_mk) ?_
    refine VC.cond (by rfl) (by trivial) (fun hc => ?_) (fun hc => ?_)
    · have hlt : i < n.symbols.length := by simp at hc; omega
      obtain ⟨x, hx⟩ : ∃ x, n.symbols[i]? = some x := ⟨n.symbols[i], List.getElem?_eq_getElem hlt⟩
      have hw : IntKind.i64.wrap ((i : Int) + 1) = (i : Int) + 1 := wrap64_id (by omega) (by omega)
      have hxp : (n.symbols.map sPV)[i]? = some (sPV x) := by rw [List.getElem?_map, hx]; rfl
      have hnx : (n.symbols.take (i + 1)).contains n.dflt = ((n.symbols.take i).contains n.dflt || (x == n.dflt)) := by
        rw [List.take_add_one, hx, Bool.eq_iff_iff]
        simp
        exact ⟨fun h => h.imp id Eq.symm, fun h => h.imp id Eq.symm⟩
      obtain ⟨b0, hb0⟩ : ∃ b, b = (n.symbols.take i).contains n.dflt := ⟨_, rfl⟩
      rw [← hb0] at hnx ⊢
      clear hb0
      replace hnx := Lib.hid hnx
      refine walkGF (And.intro @ncells_mk (And.intro @scells_mk (And.intro hxp (And.intro @sPV_eq (And.intro @str_toList hw))))) ?_
      refine .next ⟨i + 1, by omega⟩ ?_ (by simp only []; omega)
      simp only [ncells_mk, scells_mk, hnx.out, Weak, eq_self, used_is, sc_any, sc_c, sc_pp, sc_ref, sc_row, sc_agg, sc_fn, ScL, some_imp, List.forall_mem_map, go_sem, Int.reduceBEq, Int.reduceLE, Int.reduceLT, Int.reduceNeg, Nat.reduceAdd, Nat.reduceEqDiff, Nat.reduceLT, Nat.reduceLeDiff, Nat.reduceMul, Nat.reduceSub, reduceCtorEq, ↓reduceIte]
      exact cI (by omega)
    · have hie : i = n.symbols.length := by simp at hc; omega
      rw [show n.symbols.take i = n.symbols by rw [hie, List.take_length]]
      have hA := rsimples_told n.symbols (by omega) fun x hx => by have := hs2 x hx; omega
      have hO := ronce_told n.symbols (by omega)
      have hF : ((((n.has == n.symbols.contains n.dflt) && (n.has || n.dflt.isEmpty)) && (decide (1 ≤ n.symbols.length) && (decide (n.symbols.length ≤ 40) && diffM simpleM n.symbols)))) =
          (((decide ((n.symbols.length : Int) > 0) && allM simpleM n.symbols) && decide n.symbols.Nodup) && ((n.has && n.symbols.contains n.dflt) || (!n.has && (n.dflt == [])))) := by
        have e1 : decide ((n.symbols.length : Int) > 0) = decide (1 ≤ n.symbols.length) := decide_eq_decide.2 (by omega)
        have e2 : n.dflt.isEmpty = (n.dflt == []) := by cases n.dflt <;> rfl
        have e3 : n.symbols.all simpleM = true → (n.dflt == []) = true → n.symbols.contains n.dflt = false := fun ha hd => by
          rw [Bool.eq_false_iff]
          intro hm
          have h1 := List.all_eq_true.1 ha n.dflt (by simpa using hm)
          have h2 : n.dflt = [] := by simpa using hd
          rw [h2] at h1
          exact absurd h1 (by decide)
        rw [e1, e2, diffM, allM]
        generalize decide (1 ≤ n.symbols.length) = x1
        generalize decide (n.symbols.length ≤ 40) = x2
        generalize decide n.symbols.Nodup = x3
        generalize n.symbols.all simpleM = x4 at e3 ⊢
        generalize (n.dflt == []) = x5 at e3 ⊢
        generalize n.symbols.contains n.dflt = x6 at e3 ⊢
        cases x1 <;> cases x2 <;> cases x3 <;> cases x4 <;> cases x5 <;> cases x6 <;> cases n.has <;> simp at e3 ⊢
      obtain ⟨b0, hb0⟩ : ∃ b, b = n.symbols.contains n.dflt := ⟨_, rfl⟩
      obtain ⟨b1, hb1⟩ : ∃ b, b = allM simpleM n.symbols := ⟨_, rfl⟩
      obtain ⟨b2, hb2⟩ : ∃ b, b = decide n.symbols.Nodup := ⟨_, rfl⟩
      rw [hF, ← hb0, ← hb1, ← hb2] at hV10
      rw [← hb0]
      rw [← hb1] at hA
      rw [← hb2] at hO
      clear hb0 hb1 hb2 hF
      cases hnh : n.has with
      | true =>
        rw [hnh] at hV10
        replace hV10 := Lib.hid hV10
        refine walkGF (And.intro @ncells_mk @scells_mk) ?_
        refine walkD (hA) ?_
        refine walkGF (And.intro @ncells_mk @scells_mk) ?_
        refine walkD (hO) ?_
        refine walkGF (And.intro @ncells_mk (And.intro @scells_mk (And.intro @str_toList (And.intro hE hnh)))) ?_
        refine .normal ⟨_, hV10.out⟩ ?_
        simp only [ncells_mk, scells_mk, Weak, eq_self, used_is, sc_any, sc_c, sc_pp, sc_ref, sc_row, sc_agg, sc_fn, ScL, some_imp, List.forall_mem_map, go_sem, Int.reduceBEq, Int.reduceLE, Int.reduceLT, Int.reduceNeg, Nat.reduceAdd, Nat.reduceEqDiff, Nat.reduceLT, Nat.reduceLeDiff, Nat.reduceMul, Nat.reduceSub, reduceCtorEq, ↓reduceIte]
      | false =>
        rw [hnh] at hV10
        replace hV10 := Lib.hid hV10
        refine walkGF (And.intro @ncells_mk @scells_mk) ?_
        refine walkD (hA) ?_
        refine walkGF (And.intro @ncells_mk @scells_mk) ?_
        refine walkD (hO) ?_
        refine walkGF (And.intro @ncells_mk (And.intro @scells_mk (And.intro @str_toList (And.intro hE hnh)))) ?_
        refine .normal ⟨_, hV10.out⟩ ?_
        simp only [ncells_mk, scells_mk, Weak, eq_self, used_is, sc_any, sc_c, sc_pp, sc_ref, sc_row, sc_agg, sc_fn, ScL, some_imp, List.forall_mem_map, go_sem, Int.reduceBEq, Int.reduceLE, Int.reduceLT, Int.reduceNeg, Nat.reduceAdd, Nat.reduceEqDiff, Nat.reduceLT, Nat.reduceLeDiff, Nat.reduceMul, Nat.reduceSub, reduceCtorEq, ↓reduceIte]
  by_cases h1112 : n.kind = 11 ∨ n.kind = 12
  · have hV11 : V = (true && bB) := by
      rw [hV, if_neg h9, if_neg h10, if_neg (by omega), if_neg (by omega)]
      have o1 : decide (1 ≤ n.kind) = true := by simp; omega
      have o2 : decide (n.kind ≤ 14) = true := by simp; omega
      rw [o1, o2]
      simp
    have e9 : (n.kind == 9) = false := by simpa using h9
    have e10 : (n.kind == 10) = false := by simpa using h10
    have o1 : decide (n.kind ≥ 1) = true := by simp; omega
    have o2 : decide (n.kind ≤ 14) = true := by simp; omega
    clear hV
    have hz : n.kind ≠ 13 ∧ n.kind ≠ 14 := by omega
    have pk : (partN n).kind = n.kind := rfl
    have pf : (partN n).fields = [] := by simp [partN, h9, h10, h1112, hz.1, hz.2]
    have ps : (partN n).symbols = [] := by simp [partN, h9, h10, h1112, hz.1, hz.2]
    have ph : (partN n).has = false := by simp [partN, h9, h10, h1112, hz.1, hz.2]
    have pd : (partN n).dflt = [] := by simp [partN, h9, h10, h1112, hz.1, hz.2]
    have pz : (partN n).size = 0 := by simp [partN, h9, h10, h1112, hz.1, hz.2]
    have pi : (partN n).items = n.items := by simp [partN, h9, h10, h1112, hz.1, hz.2]
    have pb : (partN n).branches = [] := by simp [partN, h9, h10, h1112, hz.1, hz.2]
    rcases h1112 with h11 | h11
    · have e11 : (n.kind == 11) = true := by simpa using h11
      refine walkBF (And.intro @ncells_mk (And.intro e9 (And.intro e10 e11))) ?_
      refine .normal ⟨true, hV11⟩ ?_
      simp only [ncells_mk, scells_mk, o1, o2, pk, pf, ps, ph, pd, pz, pi, pb, Weak, eq_self, used_is, sc_any, sc_c, sc_pp, sc_ref, sc_row, sc_agg, sc_fn, ScL, some_imp, List.forall_mem_map, go_sem, Int.reduceBEq, Int.reduceLE, Int.reduceLT, Int.reduceNeg, Nat.reduceAdd, Nat.reduceEqDiff, Nat.reduceLT, Nat.reduceLeDiff, Nat.reduceMul, Nat.reduceSub, reduceCtorEq, ↓reduceIte]
      done
    · have e11 : (n.kind == 11) = false := by simp; omega
      have e12 : (n.kind == 12) = true := by simpa using h11
      refine walkBF (And.intro @ncells_mk (And.intro e9 (And.intro e10 (And.intro e11 e12)))) ?_
      refine .normal ⟨true, hV11⟩ ?_
      simp only [ncells_mk, scells_mk, o1, o2, pk, pf, ps, ph, pd, pz, pi, pb, Weak, eq_self, used_is, sc_any, sc_c, sc_pp, sc_ref, sc_row, sc_agg, sc_fn, ScL, some_imp, List.forall_mem_map, go_sem, Int.reduceBEq, Int.reduceLE, Int.reduceLT, Int.reduceNeg, Nat.reduceAdd, Nat.reduceEqDiff, Nat.reduceLT, Nat.reduceLeDiff, Nat.reduceMul, Nat.reduceSub, reduceCtorEq, ↓reduceIte]
      done
  have e9 : (n.kind == 9) = false := by simpa using h9
  have e10 : (n.kind == 10) = false := by simpa using h10
  have e11 : (n.kind == 11) = false := by simp; omega
  have e12 : (n.kind == 12) = false := by simp; omega
  by_cases h13 : n.kind = 13
  · have hbr := hbr h13
    have o1 : decide (n.kind ≥ 1) = true := by simp; omega
    have o2 : decide (n.kind ≤ 14) = true := by simp; omega
    have e13 : (n.kind == 13) = true := by simpa using h13
    have hV13 : V = (((decide ((n.branches.length : Int) > 0) && decide ((n.branches.length : Int) ≤ 10)) && branchesM s.nodes [] n.branches) && bB) := by
      have x1 : decide ((n.branches.length : Int) > 0) = decide (1 ≤ n.branches.length) := decide_eq_decide.2 (by omega)
      have x2 : decide ((n.branches.length : Int) ≤ 10) = decide (n.branches.length ≤ 10) := decide_eq_decide.2 (by omega)
      rw [hV, if_neg h9, if_neg h10, if_neg (by omega), if_pos h13, h13, unionM, x1, x2]
      simp [Bool.and_comm, Bool.and_assoc]
    clear hV
    have pk : (partN n).kind = n.kind := rfl
    have pf : (partN n).fields = [] := by simp [partN, h13]
    have ps : (partN n).symbols = [] := by simp [partN, h13]
    have ph : (partN n).has = false := by simp [partN, h13]
    have pd : (partN n).dflt = [] := by simp [partN, h13]
    have pz : (partN n).size = 0 := by simp [partN, h13]
    have pi : (partN n).items = 0 := by simp [partN, h13]
    have pb : (partN n).branches = n.branches := by simp [partN, h13]
    obtain ⟨L, hL⟩ : ∃ L, L = (decide ((n.branches.length : Int) > 0) && decide ((n.branches.length : Int) ≤ 10)) := ⟨_, rfl⟩
    rw [← hL] at hV13
    refine walkBF (And.intro @ncells_mk (And.intro e9 (And.intro e10 (And.intro e11 (And.intro e12 e13))))) ?_
    refine VC.loop (ι := {i : Nat // i ≤ n.branches.length}) (fun q => [(2, .ref 0 1 0 0), (3, .ref 8 1 0 0), (5, .ref 48 1 0 0), (7, .c (.v (.bool (L && branchesM s.nodes [] (n.branches.take q.1))))), (13, .c (.v (.int .i64 (q.1 : Int))))])
      (fun q => [(0, ⟨false, 24, 2, [s.cells.map .c]⟩), (8, ⟨false, 33, 10, [n.cells.map .c]⟩), (48, ⟨false, 33, 10, [(partN n).cells.map .c]⟩)]) 10000 (fun q => n.branches.length - q.1) ⟨0, Nat.zero_le _⟩ ?_ ?_
    · simp only [ncells_mk, scells_mk, o1, o2, hL, pk, pf, ps, ph, pd, pz, pi, pb, Weak, eq_self, used_is, sc_any, sc_c, sc_pp, sc_ref, sc_row, sc_agg, sc_fn, ScL, some_imp, List.forall_mem_map, go_sem, Int.reduceBEq, Int.reduceLE, Int.reduceLT, Int.reduceNeg, Nat.reduceAdd, Nat.reduceEqDiff, Nat.reduceLT, Nat.reduceLeDiff, Nat.reduceMul, Nat.reduceSub, reduceCtorEq, ↓reduceIte]
      simp [branchesM]
    rintro ⟨i, hi⟩
    simp only []
    refine walkGF (And.intro @ncells_mk @scells_mk) ?_
    refine VC.cond (by rfl) (by trivial) (fun hc => ?_) (fun hc => ?_)
    · have hlt : i < n.branches.length := by simp at hc; omega
      obtain ⟨x, hx⟩ : ∃ x, n.branches[i]? = some x := ⟨n.branches[i], List.getElem?_eq_getElem hlt⟩
      obtain ⟨y0, y1⟩ := hbr x (List.mem_of_getElem? hx)
      obtain ⟨p, rfl⟩ : ∃ p : Nat, x = (p : Int) := ⟨x.toNat, by omega⟩
      obtain ⟨m, hm⟩ : ∃ m, s.nodes[p]? = some m := ⟨s.nodes[p]'(by omega), List.getElem?_eq_getElem (by omega)⟩
      have hmp : (s.nodes.map NT.cells)[p]? = some m.cells := by rw [List.getElem?_map, hm]; rfl
      have hw : IntKind.i64.wrap ((i : Int) + 1) = (i : Int) + 1 := wrap64_id (by omega) (by omega)
      have hxp : (n.branches.map iPV)[i]? = some (iPV (p : Int)) := by rw [List.getElem?_map, hx]; rfl
      have hnx : branchesM s.nodes [] (n.branches.take (i + 1)) = (branchesM s.nodes [] (n.branches.take i) && branchM s.nodes (n.branches.take i) (p : Int)) := by
        rw [List.take_add_one, hx, Option.toList_some, branchesM_snoc, List.nil_append]
      rw [branchM, Int.toNat_natCast, kindAt_of hm] at hnx
      obtain ⟨b0, hb0⟩ : ∃ b, b = branchesM s.nodes [] (n.branches.take i) := ⟨_, rfl⟩
      rw [← hb0] at hnx ⊢
      clear hb0
      replace hnx := Lib.hid hnx
      have hNm := rnamed10_told m.kind
      obtain ⟨bn, hbn⟩ : ∃ b, b = namedK m.kind := ⟨_, rfl⟩
      rw [← hbn] at hNm
      refine walkGF (And.intro @ncells_mk (And.intro @scells_mk (And.intro hxp (And.intro @iPV_eq hmp)))) ?_
      refine VC.loop (ι := {k : Nat // k ≤ i}) (fun q => [(2, .ref 0 1 0 0), (3, .ref 8 1 0 0), (5, .ref 48 1 0 0), (7, .c (.v (.bool (((L && b0) && (m.kind != 13)) && !(n.branches.take q.1).any fun z => z == (p : Int) || (!bn && kindAt s.nodes z.toNat == m.kind))))), (13, .c (.v (.int .i64 (i : Int)))), (14, .ref 10112 1 0 0), (15, .c (.v (.int .i64 (q.1 : Int))))])
        (fun q => [(0, ⟨false, 24, 2, [s.cells.map .c]⟩), (8, ⟨false, 33, 10, [n.cells.map .c]⟩), (48, ⟨false, 33, 10, [(partN n).cells.map .c]⟩), (10112, ⟨false, 33, 10, [m.cells.map .c]⟩)]) 20000 (fun q => i - q.1) ⟨0, Nat.zero_le _⟩ ?_ ?_
      · simp only [ncells_mk, scells_mk, Weak, eq_self, used_is, sc_any, sc_c, sc_pp, sc_ref, sc_row, sc_agg, sc_fn, ScL, some_imp, List.forall_mem_map, go_sem, Int.reduceBEq, Int.reduceLE, Int.reduceLT, Int.reduceNeg, Nat.reduceAdd, Nat.reduceEqDiff, Nat.reduceLT, Nat.reduceLeDiff, Nat.reduceMul, Nat.reduceSub, reduceCtorEq, ↓reduceIte]
        simp
      rintro ⟨k, hk⟩
      simp only []
      refine walkGF (And.intro @ncells_mk @scells_mk) ?_
      refine VC.cond (by rfl) (by trivial) (fun hc2 => ?_) (fun hc2 => ?_)
      · have hki : k < i := by simp at hc2; omega
        obtain ⟨y, hy⟩ : ∃ y, n.branches[k]? = some y := ⟨n.branches[k]'(by omega), List.getElem?_eq_getElem (by omega)⟩
        obtain ⟨z0, z1⟩ := hbr y (List.mem_of_getElem? hy)
        obtain ⟨r, rfl⟩ : ∃ r : Nat, y = (r : Int) := ⟨y.toNat, by omega⟩
        obtain ⟨w, hwn⟩ : ∃ w, s.nodes[r]? = some w := ⟨s.nodes[r]'(by omega), List.getElem?_eq_getElem (by omega)⟩
        have hwp : (s.nodes.map NT.cells)[r]? = some w.cells := by rw [List.getElem?_map, hwn]; rfl
        have hwk : IntKind.i64.wrap ((k : Int) + 1) = (k : Int) + 1 := wrap64_id (by omega) (by omega)
        have hyp : (n.branches.map iPV)[k]? = some (iPV (r : Int)) := by rw [List.getElem?_map, hy]; rfl
        have hnk : (!(n.branches.take (k + 1)).any fun z => z == (p : Int) || (!bn && kindAt s.nodes z.toNat == m.kind)) = ((!(n.branches.take k).any fun z => z == (p : Int) || (!bn && kindAt s.nodes z.toNat == m.kind)) && (((p : Int) != (r : Int)) && ((m.kind != w.kind) || bn))) := by
          rw [List.take_add_one, hy, List.any_append]
          simp only [Option.toList_some, List.any_cons, List.any_nil, Bool.or_false, Int.toNat_natCast, kindAt_of hwn, Bool.not_or, Bool.not_and, Bool.not_not]
          congr 1
          congr 1
          · rw [bne_comm]; rfl
          · rw [Bool.or_comm, bne_comm]; rfl
        obtain ⟨b1, hb1⟩ : ∃ b, b = !(n.branches.take k).any fun z => z == (p : Int) || (!bn && kindAt s.nodes z.toNat == m.kind) := ⟨_, rfl⟩
        rw [← hb1] at hnk ⊢
        clear hb1
        replace hnk := Lib.hid hnk
        refine walkGF (And.intro @ncells_mk (And.intro @scells_mk (And.intro hxp (And.intro hyp (And.intro @iPV_eq (And.intro hmp hwp)))))) ?_
        refine walkD (hNm) ?_
        refine walkGF (hwk) ?_
        refine .next ⟨k + 1, by omega⟩ ?_ (by simp only []; omega)
        simp only [ncells_mk, scells_mk, hnk.out, Bool.and_assoc, Weak, eq_self, used_is, sc_any, sc_c, sc_pp, sc_ref, sc_row, sc_agg, sc_fn, ScL, some_imp, List.forall_mem_map, go_sem, Int.reduceBEq, Int.reduceLE, Int.reduceLT, Int.reduceNeg, Nat.reduceAdd, Nat.reduceEqDiff, Nat.reduceLT, Nat.reduceLeDiff, Nat.reduceMul, Nat.reduceSub, reduceCtorEq, ↓reduceIte]
        exact cI (by omega)
      · have hke : k = i := by simp at hc2; omega
        subst hke
        refine walkGF (hw) ?_
        refine .next ⟨k + 1, by omega⟩ ?_ (by simp only []; omega)
        simp only [ncells_mk, scells_mk, hnx.out, hbn, Bool.and_assoc, Weak, eq_self, used_is, sc_any, sc_c, sc_pp, sc_ref, sc_row, sc_agg, sc_fn, ScL, some_imp, List.forall_mem_map, go_sem, Int.reduceBEq, Int.reduceLE, Int.reduceLT, Int.reduceNeg, Nat.reduceAdd, Nat.reduceEqDiff, Nat.reduceLT, Nat.reduceLeDiff, Nat.reduceMul, Nat.reduceSub, reduceCtorEq, ↓reduceIte]
        exact cI (by omega)
    · have hie : i = n.branches.length := by simp at hc; omega
      rw [show n.branches.take i = n.branches by rw [hie, List.take_length]]
      refine walkG ?_
      refine .normal ⟨_, hV13⟩ ?_
      simp only [ncells_mk, scells_mk, Weak, eq_self, used_is, sc_any, sc_c, sc_pp, sc_ref, sc_row, sc_agg, sc_fn, ScL, some_imp, List.forall_mem_map, go_sem, Int.reduceBEq, Int.reduceLE, Int.reduceLT, Int.reduceNeg, Nat.reduceAdd, Nat.reduceEqDiff, Nat.reduceLT, Nat.reduceLeDiff, Nat.reduceMul, Nat.reduceSub, reduceCtorEq, ↓reduceIte]
  have e13 : (n.kind == 13) = false := by simpa using h13
  by_cases h14 : n.kind = 14
  · have o1 : decide (n.kind ≥ 1) = true := by simp; omega
    have o2 : decide (n.kind ≤ 14) = true := by simp; omega
    have hV14 : V = ((decide (n.size ≥ 0) && decide (n.size ≤ 1000)) && bB) := by
      rw [hV, if_neg h9, if_neg h10, if_pos h14, h14]
      simp [Bool.and_comm]
    clear hV
    have pk : (partN n).kind = n.kind := rfl
    have pf : (partN n).fields = [] := by simp [partN, h14]
    have ps : (partN n).symbols = [] := by simp [partN, h14]
    have ph : (partN n).has = false := by simp [partN, h14]
    have pd : (partN n).dflt = [] := by simp [partN, h14]
    have pz : (partN n).size = n.size := by simp [partN, h14]
    have pi : (partN n).items = 0 := by simp [partN, h14]
    have pb : (partN n).branches = [] := by simp [partN, h14]
    have e14 : (n.kind == 14) = true := by simpa using h14
    refine walkBF (And.intro @ncells_mk (And.intro e9 (And.intro e10 (And.intro e11 (And.intro e12 (And.intro e13 e14)))))) ?_
    refine .normal ⟨_, hV14⟩ ?_
    simp only [ncells_mk, scells_mk, o1, o2, pk, pf, ps, ph, pd, pz, pi, pb, Weak, eq_self, used_is, sc_any, sc_c, sc_pp, sc_ref, sc_row, sc_agg, sc_fn, ScL, some_imp, List.forall_mem_map, go_sem, Int.reduceBEq, Int.reduceLE, Int.reduceLT, Int.reduceNeg, Nat.reduceAdd, Nat.reduceEqDiff, Nat.reduceLT, Nat.reduceLeDiff, Nat.reduceMul, Nat.reduceSub, reduceCtorEq, ↓reduceIte]
    done
  · have hV0 : V = ((decide (n.kind ≥ 1) && decide (n.kind ≤ 14)) && bB) := by
      rw [hV, if_neg h9, if_neg h10, if_neg h14, if_neg h13]
      simp [Bool.and_assoc]
    clear hV
    have pk : (partN n).kind = n.kind := rfl
    have pf : (partN n).fields = [] := by simp [partN, h9, h10, h13, h14, h1112]
    have ps : (partN n).symbols = [] := by simp [partN, h9, h10, h13, h14, h1112]
    have ph : (partN n).has = false := by simp [partN, h9, h10, h13, h14, h1112]
    have pd : (partN n).dflt = [] := by simp [partN, h9, h10, h13, h14, h1112]
    have pz : (partN n).size = 0 := by simp [partN, h9, h10, h13, h14, h1112]
    have pi : (partN n).items = 0 := by simp [partN, h9, h10, h13, h14, h1112]
    have pb : (partN n).branches = [] := by simp [partN, h9, h10, h13, h14, h1112]
    have e14 : (n.kind == 14) = false := by simpa using h14
    refine walkBF (And.intro @ncells_mk (And.intro e9 (And.intro e10 (And.intro e11 (And.intro e12 (And.intro e13 e14)))))) ?_
    refine .normal ⟨_, hV0⟩ ?_
    simp only [ncells_mk, scells_mk, pk, pf, ps, ph, pd, pz, pi, pb, Weak, eq_self, used_is, sc_any, sc_c, sc_pp, sc_ref, sc_row, sc_agg, sc_fn, ScL, some_imp, List.forall_mem_map, go_sem, Int.reduceBEq, Int.reduceLE, Int.reduceLT, Int.reduceNeg, Nat.reduceAdd, Nat.reduceEqDiff, Nat.reduceLT, Nat.reduceLeDiff, Nat.reduceMul, Nat.reduceSub, reduceCtorEq, ↓reduceIte]
    done

theorem take_step {ns : List NT} {l : List Int} {i : Nat} (h : i < ns.length) : (wstep ns l).take (i + 1) = (wstep ns l).take i ++ [foldW (wAt l) (fieldsAt ns i) 1] := by
  rw [List.take_add_one, wstep_at h]
  rfl
theorem fieldsAt_of {ns : List NT} {i : Nat} {n : NT} (h : ns[i]? = some n) : fieldsAt ns i = if n.kind = 9 then n.fields else [] := by rw [fieldsAt, h]
noncomputable def difT (a b : List Int) (i : Nat) : Bool := @decide (a.take i ≠ b.take i) (Classical.propDecidable _)
theorem difT_zero (a b : List Int) : difT a b 0 = false := by simp [difT]
theorem difT_next {a b : List Int} {i : Nat} {x y : Int} (hx : a[i]? = some x) (hy : b[i]? = some y) : difT a b (i + 1) = (difT a b i || (x != y)) := by
  have hla := (List.getElem?_eq_some_iff.1 hx).1
  have hlb := (List.getElem?_eq_some_iff.1 hy).1
  rw [Bool.eq_iff_iff]
  simp only [difT, decide_eq_true_eq, Bool.or_eq_true, bne_iff_ne, ne_eq]
  rw [List.take_add_one, List.take_add_one, hx, hy, Option.toList_some, Option.toList_some]
  constructor
  · intro h
    by_cases h1 : a.take i = b.take i
    · by_cases h2 : x = y
      · exact absurd (by rw [h1, h2]) h
      · exact .inr h2
    · exact .inl h1
  · rintro h e
    have := List.append_inj e (by simp; omega)
    rcases h with h | h
    · exact h this.1
    · exact h (List.cons.inj this.2).1
theorem difT_end {a b : List Int} {i : Nat} (ha : a.length = i) (hb : b.length = i) : difT a b i = false ↔ a = b := by
  simp only [difT, decide_eq_false_iff_not, ne_eq, Classical.not_not]
  rw [List.take_of_length_le (by omega), List.take_of_length_le (by omega)]
set_option maxRecDepth 100000 in
set_option maxHeartbeats 3200000 in
theorem rweights_told (s : ST) (hl : s.nodes.length ≤ 1000000) (hs : ∀ n ∈ s.nodes, n.sm 1000000) (hr : ∀ p, ∀ x ∈ fieldsAt s.nodes p, 0 ≤ x.type ∧ x.type < (s.nodes.length : Int)) (l : List Int) (hG : ∀ l', WOk s.nodes l' → wstep s.nodes l' = l' → l' = l) :
    Told Tryz.prog 123 [s.av] (.c (.sl 1 (l.map iPV))) := by
  rw [ST.av_eq, scells_mk]
  refine VC.told ent_123 Tryz.func123 rfl Tryz.ntmps123 (by simp) (by first | rfl | simp [AV.pureB, AV.pureL, pureL_c, pures]) (by first | rfl | simp [AV.pureB, AV.pureL, pureL_c, pures]) fun hb => ?_
  clear hb
  refine walkG ?_
  refine VC.nil 3 3 1 (by rfl) (by trivial) (by rfl) ?_
  refine VC.loop (ι := {i : Nat // i ≤ s.nodes.length}) (fun q => [(1, .ref 0 1 0 0), (3, .row 32 q.1), (4, .c (.v (.int .i64 (q.1 : Int))))]) (fun q => [(0, ⟨false, 24, 2, [s.cells.map .c]⟩), (32, ⟨true, 3, 1, rA iPV (List.replicate q.1 1)⟩)]) 800 (fun q => s.nodes.length - q.1)
    ⟨0, Nat.zero_le _⟩ ?_ ?_
  · simp only [rA_len, rA_sc, rA_nil, scells_mk, Weak, eq_self, used_is, sc_any, sc_c, sc_pp, sc_ref, sc_row, sc_agg, sc_fn, ScL, some_imp, List.forall_mem_map, go_sem, Int.reduceBEq, Int.reduceLE, Int.reduceLT, Int.reduceNeg, Nat.reduceAdd, Nat.reduceEqDiff, Nat.reduceLT, Nat.reduceLeDiff, Nat.reduceMul, Nat.reduceSub, reduceCtorEq, ↓reduceIte]
    try simp [rA_nil]
  rintro ⟨i, hi⟩
  simp only []
  refine walkGF (@scells_mk) ?_
  refine VC.cond (by rfl) (by trivial) (fun hc => ?_) (fun hc => ?_)
  · have hlt : i < s.nodes.length := by simp at hc; omega
    have hw : IntKind.i64.wrap ((i : Int) + 1) = (i : Int) + 1 := wrap64_id (by omega) (by omega)
    have hln : (rA iPV (List.replicate i 1)).length = i := by rw [rA_len]; simp
    have hap : rA iPV (List.replicate i 1) ++ [[.c (.v (.int .i64 1))]] = rA iPV (List.replicate (i + 1) 1) := by
      rw [List.replicate_succ']
      exact rA_one iPV _ 1
    have hl2 : (rA iPV (List.replicate (i + 1) 1)).length = i + 1 := by rw [rA_len]; simp
    refine walkGF (And.intro hln (And.intro hap hw)) ?_
    refine .next ⟨i + 1, by omega⟩ ?_ (by simp only []; omega)
    simp only [hl2, rA_sc, scells_mk, Weak, eq_self, used_is, sc_any, sc_c, sc_pp, sc_ref, sc_row, sc_agg, sc_fn, ScL, some_imp, List.forall_mem_map, go_sem, Int.reduceBEq, Int.reduceLE, Int.reduceLT, Int.reduceNeg, Nat.reduceAdd, Nat.reduceEqDiff, Nat.reduceLT, Nat.reduceLeDiff, Nat.reduceMul, Nat.reduceSub, reduceCtorEq, ↓reduceIte]
    exact ⟨cI (by omega), by rw [rA_len]; simp⟩
  have hie : i = s.nodes.length := by simp at hc; omega
  subst hie
  have hln : (rA iPV (List.replicate s.nodes.length 1)).length = s.nodes.length := by rw [rA_len]; simp
  refine walkG ?_
  refine VC.frz [32] [(1, .ref 0 1 0 0), (3, .c (.sl 1 ((List.replicate s.nodes.length 1).map iPV))), (5, .c (.v (.bool true)))] [(0, ⟨false, 24, 2, [s.cells.map .c]⟩)] 1600 ?_ ?_
  · simp only [rA_sc, rA_len, scells_mk, WeakF, used_is, sc_any, sc_c, sc_pp, sc_ref, sc_row, sc_agg, sc_fn, ScL, some_imp, List.forall_mem_map, go_sem, Int.reduceBEq, Int.reduceLE, Int.reduceLT, Int.reduceNeg, Nat.reduceAdd, Nat.reduceEqDiff, Nat.reduceLT, Nat.reduceLeDiff, Nat.reduceMul, Nat.reduceSub, reduceCtorEq, ↓reduceIte]
    exact ⟨⟨.same _, .row (B := ⟨true, 3, 1, rA iPV (List.replicate s.nodes.length 1)⟩) (es := (List.replicate s.nodes.length 1).map iPV) (by simp) rfl rfl hln (rA_pv _ _), .same _⟩, .same _⟩
  refine VC.loop (ι := {x : List Int × Bool // WOk s.nodes x.1 ∧ (x.2 = false → wstep s.nodes x.1 = x.1)}) (fun q => [(1, .ref 0 1 0 0), (3, .c (.sl 1 (q.1.1.map iPV))), (5, .c (.v (.bool q.1.2)))]) (fun q => [(0, ⟨false, 24, 2, [s.cells.map .c]⟩)]) 3200 (fun q => wlack q.1.1 * 2 + q.1.2.toNat)
    ⟨(List.replicate s.nodes.length 1, true), wok_one s.nodes, by simp⟩ ?_ ?_
  · simp only [scells_mk, Weak, eq_self, used_is, sc_any, sc_c, sc_pp, sc_ref, sc_row, sc_agg, sc_fn, ScL, some_imp, List.forall_mem_map, go_sem, Int.reduceBEq, Int.reduceLE, Int.reduceLT, Int.reduceNeg, Nat.reduceAdd, Nat.reduceEqDiff, Nat.reduceLT, Nat.reduceLeDiff, Nat.reduceMul, Nat.reduceSub, reduceCtorEq, ↓reduceIte]
  rintro ⟨⟨w, more⟩, hwk, hmore⟩
  simp only [] at hwk hmore ⊢
  refine walkG ?_
  refine VC.cond (by rfl) (by trivial) (fun hm => ?_) (fun hm => ?_)
  rotate_left
  · obtain rfl := hG w hwk (hmore hm)
    refine walkG ?_
    refine ⟨by first | exact .inr rfl | exact .inl rfl, ?_⟩; rw [Tryz.results123]; simp only [resOk, resV, go_sem, Int.reduceBEq, Int.reduceLE, Int.reduceLT, Int.reduceNeg, Nat.reduceAdd, Nat.reduceEqDiff, Nat.reduceLT, Nat.reduceLeDiff, Nat.reduceMul, Nat.reduceSub, reduceCtorEq, ↓reduceIte]
    exact .c _
  subst hm
  obtain ⟨hwl, hwr, hwm⟩ := hwk
  have hwl2 : (w.map iPV).length = s.nodes.length := by simp [hwl]
  refine walkG ?_
  refine VC.nil 6 3 1 (by rfl) (by trivial) (by rfl) ?_
  refine VC.loop (ι := {i : Nat // i ≤ s.nodes.length}) (fun q => [(1, .ref 0 1 0 0), (3, .c (.sl 1 (w.map iPV))), (5, .c (.v (.bool (difT (wstep s.nodes w) w q.1)))), (6, .row 3232 q.1), (7, .c (.v (.int .i64 (q.1 : Int))))]) (fun q => [(0, ⟨false, 24, 2, [s.cells.map .c]⟩), (3232, ⟨true, 3, 1, rA iPV ((wstep s.nodes w).take q.1)⟩)]) 4800 (fun q => s.nodes.length - q.1)
    ⟨0, Nat.zero_le _⟩ ?_ ?_
  · simp only [rA_len, rA_sc, rA_nil, scells_mk, difT_zero, Weak, eq_self, used_is, sc_any, sc_c, sc_pp, sc_ref, sc_row, sc_agg, sc_fn, ScL, some_imp, List.forall_mem_map, go_sem, Int.reduceBEq, Int.reduceLE, Int.reduceLT, Int.reduceNeg, Nat.reduceAdd, Nat.reduceEqDiff, Nat.reduceLT, Nat.reduceLeDiff, Nat.reduceMul, Nat.reduceSub, reduceCtorEq, ↓reduceIte]
    done
  rintro ⟨i, hi⟩
  simp only []
  refine walkGF (@scells_mk) ?_
  refine VC.cond (by rfl) (by trivial) (fun hc => ?_) (fun hc => ?_)
  · have hlt : i < s.nodes.length := by simp at hc; omega
    obtain ⟨n, hn⟩ : ∃ n, s.nodes[i]? = some n := ⟨s.nodes[i], List.getElem?_eq_getElem hlt⟩
    have hnp : (s.nodes.map NT.cells)[i]? = some n.cells := by rw [List.getElem?_map, hn]; rfl
    have hw : IntKind.i64.wrap ((i : Int) + 1) = (i : Int) + 1 := wrap64_id (by omega) (by omega)
    have hfl := (hs n (List.mem_of_getElem? hn)).2.2.2.2.2.1
    obtain ⟨v, hv⟩ : ∃ v, w[i]? = some v := ⟨w[i]'(by omega), List.getElem?_eq_getElem (by omega)⟩
    have hvp : (w.map iPV)[i]? = some (iPV v) := by rw [List.getElem?_map, hv]; rfl
    have hwa := fun q => wAt_range hwr q
    have hsl : (wstep s.nodes w).length = s.nodes.length := by simp [wstep]
    have hln2 : (rA iPV ((wstep s.nodes w).take i)).length = i := by rw [rA_len]; simp; omega
    have hl2 : (rA iPV ((wstep s.nodes w).take (i + 1))).length = i + 1 := by rw [rA_len]; simp; omega
    have hst := take_step (l := w) hlt
    have hat := wstep_at (l := w) hlt
    have hdn := difT_next hat hv
    obtain ⟨T, hT⟩ : ∃ T, T = foldW (wAt w) (fieldsAt s.nodes i) 1 := ⟨_, rfl⟩
    rw [← hT] at hst hat hdn
    have hap : rA iPV ((wstep s.nodes w).take i) ++ [[.c (.v (.int .i64 T))]] = rA iPV ((wstep s.nodes w).take (i + 1)) := by
      rw [hst]
      exact rA_one iPV _ T
    have hfa := fieldsAt_of hn
    replace hdn := Lib.hid hdn
    have hlw : ∀ (F : List FT) (a : Int), a ≤ 1001 → foldW (wAt w) F a ≤ 1001 := fun F a h => foldW_le F a h
    have hgw : ∀ (F : List FT) (a : Int), a ≤ 1001 → a ≤ foldW (wAt w) F a := fun F a h => foldW_ge (fun q => (hwa q).1) F a h
    refine walkG ?_
    refine VC.loop (ι := {x : Nat × Int // x.1 ≤ n.fields.length ∧ 1 ≤ x.2 ∧ x.2 ≤ 2001 ∧ foldW (wAt w) ((if n.kind = 9 then n.fields else []).drop x.1) (min x.2 1001) = T}) (fun q => [(1, .ref 0 1 0 0), (3, .c (.sl 1 (w.map iPV))), (5, .c (.v (.bool (difT (wstep s.nodes w) w i)))), (6, .row 3232 i), (7, .c (.v (.int .i64 (i : Int)))), (8, .c (.v (.int .i64 q.1.2))), (9, .c (.v (.int .i64 (q.1.1 : Int))))])
      (fun q => [(0, ⟨false, 24, 2, [s.cells.map .c]⟩), (3232, ⟨true, 3, 1, rA iPV ((wstep s.nodes w).take i)⟩)]) 6400 (fun q => n.fields.length - q.1.1) ⟨(0, 1), Nat.zero_le _, by simp only []; omega, by simp only []; omega, by rw [hT, hfa]; rfl⟩ ?_ ?_
    · simp only [hln2, rA_sc, scells_mk, Weak, eq_self, used_is, sc_any, sc_c, sc_pp, sc_ref, sc_row, sc_agg, sc_fn, ScL, some_imp, List.forall_mem_map, go_sem, Int.reduceBEq, Int.reduceLE, Int.reduceLT, Int.reduceNeg, Nat.reduceAdd, Nat.reduceEqDiff, Nat.reduceLT, Nat.reduceLeDiff, Nat.reduceMul, Nat.reduceSub, reduceCtorEq, ↓reduceIte]
      exact Nat.le_refl _
    rintro ⟨⟨k, m⟩, hk, hm1, hm2, hfo⟩
    simp only [] at hk hm1 hm2 hfo ⊢
    refine walkGF (And.intro @scells_mk (And.intro hnp @ncells_mk)) ?_
    refine VC.cond (by rfl) (by trivial) (fun hc2 => ?_) (fun hc2 => ?_)
    · obtain ⟨hkl, h9, hmk⟩ : k < n.fields.length ∧ n.kind = 9 ∧ m ≤ 1000 := by
        simp at hc2
        omega
      obtain ⟨f, hf⟩ : ∃ f, n.fields[k]? = some f := ⟨n.fields[k], List.getElem?_eq_getElem hkl⟩
      have hfp : (n.fields.map FT.cells)[k]? = some f.cells := by rw [List.getElem?_map, hf]; rfl
      have hwk : IntKind.i64.wrap ((k : Int) + 1) = (k : Int) + 1 := wrap64_id (by omega) (by omega)
      obtain ⟨t0, t1⟩ := hr i f (by rw [hfa, if_pos h9]; exact List.mem_of_getElem? hf)
      obtain ⟨q, hq⟩ : ∃ q : Nat, f.type = (q : Int) := ⟨f.type.toNat, by omega⟩
      obtain ⟨u, hu⟩ : ∃ u, w[q]? = some u := ⟨w[q]'(by omega), List.getElem?_eq_getElem (by omega)⟩
      have hup : (w.map iPV)[q]? = some (iPV u) := by rw [List.getElem?_map, hu]; rfl
      have hur := hwr u (List.mem_of_getElem? hu)
      have hwu : IntKind.i64.wrap (m + u) = m + u := wrap64_id (by omega) (by omega)
      rw [if_pos h9, drop_at' hf, foldW, hq, Int.toNat_natCast, wAt_of hu] at hfo
      refine walkGF (And.intro @scells_mk (And.intro hnp (And.intro @ncells_mk (And.intro hfp (And.intro @fcells_mk (And.intro hq (And.intro hup (And.intro @iPV_eq (And.intro hwl2 (And.intro hwl (And.intro hwu hwk))))))))))) ?_
      refine .next ⟨(k + 1, m + u), by simp only []; omega, by simp only []; omega, by simp only []; omega, by
        simp only []
        rw [if_pos h9, ← hfo]
        congr 1
        omega⟩ ?_ (by simp only []; omega)
      simp only [hln2, rA_sc, scells_mk, Weak, eq_self, used_is, sc_any, sc_c, sc_pp, sc_ref, sc_row, sc_agg, sc_fn, ScL, some_imp, List.forall_mem_map, go_sem, Int.reduceBEq, Int.reduceLE, Int.reduceLT, Int.reduceNeg, Nat.reduceAdd, Nat.reduceEqDiff, Nat.reduceLT, Nat.reduceLeDiff, Nat.reduceMul, Nat.reduceSub, reduceCtorEq, ↓reduceIte]
      exact ⟨cI (by omega), Nat.le_refl _⟩
    · have hend : min m 1001 = T := by
        rw [← hfo]
        by_cases h9 : n.kind = 9
        · rw [if_pos h9]
          by_cases hkl : k < n.fields.length
          · have hmb : 1000 < m := by
              simp [h9] at hc2
              omega
            have a := hlw (n.fields.drop k) (min m 1001) (by omega)
            have b := hgw (n.fields.drop k) (min m 1001) (by omega)
            omega
          · rw [List.drop_of_length_le (by omega), foldW]
        · rw [if_neg h9, List.drop_nil, foldW]
      refine walkG ?_
      refine VC.cond (by rfl) (by trivial) (fun hc3 => ?_) (fun hc3 => ?_)
      · have hmT : T = 1001 := by
          rw [← hend]
          simp at hc3
          omega
        subst hmT
        refine walkGF (And.intro @scells_mk (And.intro hvp (And.intro @iPV_eq (And.intro hwl2 (And.intro hwl (And.intro hln2 (And.intro hap hw))))))) ?_
        refine .next ⟨i + 1, by omega⟩ ?_ (by simp only []; omega)
        simp only [hl2, rA_sc, scells_mk, hdn.out, Weak, eq_self, used_is, sc_any, sc_c, sc_pp, sc_ref, sc_row, sc_agg, sc_fn, ScL, some_imp, List.forall_mem_map, go_sem, Int.reduceBEq, Int.reduceLE, Int.reduceLT, Int.reduceNeg, Nat.reduceAdd, Nat.reduceEqDiff, Nat.reduceLT, Nat.reduceLeDiff, Nat.reduceMul, Nat.reduceSub, reduceCtorEq, ↓reduceIte]
        exact ⟨cI (by omega), Nat.le_refl _⟩
      · have hmT : m = T := by
          rw [← hend]
          simp at hc3
          omega
        subst hmT
        refine walkGF (And.intro @scells_mk (And.intro hvp (And.intro @iPV_eq (And.intro hwl2 (And.intro hwl (And.intro hln2 (And.intro hap hw))))))) ?_
        refine .next ⟨i + 1, by omega⟩ ?_ (by simp only []; omega)
        simp only [hl2, rA_sc, scells_mk, hdn.out, Weak, eq_self, used_is, sc_any, sc_c, sc_pp, sc_ref, sc_row, sc_agg, sc_fn, ScL, some_imp, List.forall_mem_map, go_sem, Int.reduceBEq, Int.reduceLE, Int.reduceLT, Int.reduceNeg, Nat.reduceAdd, Nat.reduceEqDiff, Nat.reduceLT, Nat.reduceLeDiff, Nat.reduceMul, Nat.reduceSub, reduceCtorEq, ↓reduceIte]
        exact ⟨cI (by omega), Nat.le_refl _⟩
  have hie : i = s.nodes.length := by simp at hc; omega
  have hsl : (wstep s.nodes w).length = s.nodes.length := by simp [wstep]
  subst hie
  rw [show (wstep s.nodes w).take s.nodes.length = wstep s.nodes w from List.take_of_length_le (by omega)]
  have hln3 : (rA iPV (wstep s.nodes w)).length = s.nodes.length := by rw [rA_len, hsl]
  obtain ⟨d, hd⟩ : ∃ d, d = difT (wstep s.nodes w) w s.nodes.length := ⟨_, rfl⟩
  rw [← hd]
  have hde := difT_end (a := wstep s.nodes w) (b := w) hsl hwl
  rw [← hd] at hde
  have hlack := fun h : wstep s.nodes w ≠ w => wstep_lack ⟨hwl, hwr, hwm⟩ h
  have hok := wok_step ⟨hwl, hwr, hwm⟩
  refine VC.frz [3232] [(1, .ref 0 1 0 0), (6, .c (.sl 1 ((wstep s.nodes w).map iPV))), (5, .c (.v (.bool d)))] [(0, ⟨false, 24, 2, [s.cells.map .c]⟩)] 12000 ?_ ?_
  · simp only [rA_sc, rA_len, scells_mk, WeakF, used_is, sc_any, sc_c, sc_pp, sc_ref, sc_row, sc_agg, sc_fn, ScL, some_imp, List.forall_mem_map, go_sem, Int.reduceBEq, Int.reduceLE, Int.reduceLT, Int.reduceNeg, Nat.reduceAdd, Nat.reduceEqDiff, Nat.reduceLT, Nat.reduceLeDiff, Nat.reduceMul, Nat.reduceSub, reduceCtorEq, ↓reduceIte]
    exact ⟨⟨.same _, .row (B := ⟨true, 3, 1, rA iPV (wstep s.nodes w)⟩) (es := (wstep s.nodes w).map iPV) (by simp) rfl rfl hln3 (rA_pv _ _), .same _⟩, .same _⟩
  refine walkG ?_
  refine .next ⟨(wstep s.nodes w, d), hok, fun h => ?_⟩ ?_ ?_
  · have e := hde.1 h
    simp only []
    rw [e]
    exact e
  · simp only [scells_mk, Weak, eq_self, used_is, sc_any, sc_c, sc_pp, sc_ref, sc_row, sc_agg, sc_fn, ScL, some_imp, List.forall_mem_map, go_sem, Int.reduceBEq, Int.reduceLE, Int.reduceLT, Int.reduceNeg, Nat.reduceAdd, Nat.reduceEqDiff, Nat.reduceLT, Nat.reduceLeDiff, Nat.reduceMul, Nat.reduceSub, reduceCtorEq, ↓reduceIte]
  · simp only []
    cases d with
    | false =>
      have e := hde.1 rfl
      rw [e]
      simp
    | true =>
      have := hlack fun e => by
        have := hde.2 e
        simp at this
      simp
      omega
end
section

section
variable {P : Program} {N : Nat} {Q : Exit → ASt → Prop} {id : Nat} {o1 o2 : Oper} {t : Nat → AV} {h : Nat → Option Blkd} {n d1 d2 : Nat}
end
end

theorem ssm_le' {s : ST} (h : s.sm 2500) : s.sm 1000000 := by
  obtain ⟨h1, h2⟩ := h
  refine ⟨by omega, fun n hn => ?_⟩
  obtain ⟨a1, a2, ⟨a3, a4⟩, ⟨a5, a6⟩, a7, a8, a9⟩ := h2 n hn
  refine ⟨by omega, by omega, ⟨by omega, fun y hy => by have := a4 y hy; omega⟩, ⟨by omega, fun y hy => by have := a6 y hy; omega⟩, by omega, by omega, fun f hf => ?_⟩
  obtain ⟨b1, b2, b3, b4⟩ := a9 f hf
  exact ⟨by omega, by omega, fun y hy => by have := b3 y hy; omega, sm_le (by omega) _ b4⟩
theorem range_kinds {s : ST} (h : orderedM s = true) : ∀ n ∈ s.nodes, n.kind = 9 → ∀ f ∈ n.fields, 0 ≤ f.type ∧ f.type < (s.nodes.length : Int) := fun n hn h9 f hf =>
  ordered_kids h n hn f.type (by rw [kidsN, if_pos h9]; exact List.mem_map.2 ⟨f, hf, rfl⟩)
theorem range_at {s : ST} (h : orderedM s = true) : ∀ p, ∀ x ∈ fieldsAt s.nodes p, x.type.toNat < s.nodes.length := fun p x hx => by
  unfold fieldsAt at hx
  split at hx
  · rename_i n hn
    split at hx
    · rename_i h9
      have := range_kinds h n (List.mem_of_getElem? hn) h9 x hx
      omega
    · simp at hx
  · simp at hx
section
attribute [local go_sem] opx opE ev okx gcond bnd okO AV.get AV.okb cAV upd_at putd_some putd_none wrs_nil wrs_cons look_nil look_cons st argT_at bpick_and bpick_or bpick_true bpick_false binV binI binS binVOk binOk isShift binSOk unV unVOk loadV loadP cellsA zeroA Blkd.len setE grown moreA moreR moreOk eqRes pv fillA fillE putSeg AV.cellish AV.pureL AV.pureB lentL_is ex_some AV.ren AV.renL renL_c Blkd.ren rho wrM renN lentOk rhoE keepM endOk tyA_2 tyA_3 tyA_4 tyA_5 tyA_6 tyA_7 tyA_8 tyA_9 tyA_10 tyA_11 tyA_12 tyA_13 tyA_14 tyA_15 tyA_16 tyA_17 tyA_18 tyA_19 tyA_21 tyA_22 tyA_23 tyA_24 tyA_29 tyA_30 tyA_31 tyA_32 tyA_33 tyA_34 tyA_35 tyA_36 tyA_37 tyA_38 tyA_39 tyA_40 tyA_41 tyA_42 tyA_43 tyA_48 tyA_89 tyA_93 tyA_107 tyA_108 tyA_109 tyA_113 tyA_114 tyA_115 tyA_116 tyA_117 tyA_119 tyA_120 tyA_121 tyA_122 tyA_131 tyA_134 tyA_135 tyA_136 tyA_137 tyA_138 tyA_154 tyA_156 tyA_157 tyA_158 tyA_159 tyA_170 tyA_180 tyA_181 tyA_182 tyA_196 tyA_202 tyA_208 tyA_209 tyA_210 tyA_211 tyA_212 tyA_213 tyA_229 tyA_230 tyA_231 tyA_241 tyA_264 tyA_268 tyA_293 tyA_294 tyA_295 tyA_311 tyA_313 tyA_321 tyA_326 tyA_334 tyA_338 tyA_340 tyA_343 tyA_344 tyA_345 tyA_346 tyA_347 tyA_348 tyA_349 tyA_351 tyA_352 Option.map_some Option.map_none Option.getD_some Option.getD_none Option.bind_some Option.bind_none List.getElem?_cons_zero List.getElem?_cons_succ List.getElem?_nil List.getElem?_toArray List.length_cons List.length_nil List.length_map List.forall_mem_map List.map_cons List.map_nil List.drop_zero List.drop_succ_cons List.drop_nil List.take_zero List.take_succ_cons List.take_nil List.mem_cons List.not_mem_nil or_false forall_eq_or_imp forall_eq List.set_cons_zero List.set_cons_succ List.cons_append List.nil_append List.append_nil List.foldl_cons List.foldl_nil List.replicate_succ List.replicate_zero List.all_cons List.all_nil if_true if_false Bool.false_eq_true ne_eq not_false_eq_true not_true_eq_false true_and and_true and_self true_implies imp_self implies_true forall_const beq_self_eq_true Bool.and_true Bool.true_and Bool.and_false Bool.false_and Bool.or_true Bool.true_or Bool.or_false Bool.false_or Bool.not_true Bool.not_false Bool.not_eq_eq_eq_not intKindOf Value.oneCell' Int.toNat_natCast beq_true beq_false Bool.not_eq_true false_implies false_or true_or or_true Nat.zero_add Nat.add_zero decide_true decide_false Int.cast_ofNat_Int Int.toNat_zero Int.toNat_one eq_self

theorem gList {ns : List NT} {G : Nat → Int} {l' : List Int} (hG : IsG ns G) (hr : ∀ p, ∀ x ∈ fieldsAt ns p, x.type.toNat < ns.length) (h : WOk ns l') (he : wstep ns l' = l') : l' = (List.range ns.length).map G := by
  apply List.ext_getElem?
  intro i
  by_cases hi : i < ns.length
  · rw [wok_G hG hr h he i hi, List.getElem?_map, List.getElem?_range hi]
    rfl
  · rw [List.getElem?_eq_none (by have := h.1; omega), List.getElem?_eq_none (by simp; omega)]
set_option maxRecDepth 100000 in
set_option maxHeartbeats 3200000 in
theorem rRight_told (s : ST) (hsm : s.sm 1000000) (hdp : ∀ n ∈ s.nodes, ∀ f ∈ n.fields, tdeep f.dflt ≤ 1000) : Told Tryz.prog 78 [s.av] (.c (.v (.bool (rightM s)))) := by
  obtain ⟨V, hV⟩ : ∃ V, V = rightM s := ⟨_, rfl⟩
  rw [← hV]
  obtain ⟨hl, hs⟩ := hsm
  have hO := rordered_told s hl hs
  simp only [ST.av_eq, scells_mk, List.map_cons, List.map_nil] at hO
  rw [ST.av_eq, scells_mk]
  cases ho : orderedM s with
  | false =>
    rw [ho] at hO
    have hf : V = false := by
      cases h : V with
      | false => rfl
      | true =>
        rw [hV] at h
        rw [right_ordered h] at ho
        exact absurd ho (by simp)
    subst hf
    refine VC.told ent_78 Tryz.func78 rfl Tryz.ntmps78 (by simp) (by first | rfl | simp [AV.pureB, AV.pureL, pureL_c, pures]) (by first | rfl | simp [AV.pureB, AV.pureL, pureL_c, pures]) fun hb => ?_
    clear hb
    refine walkG ?_
    refine walkC (hO) ?_
    refine walkB ?_
    refine ⟨by first | exact .inr rfl | exact .inl rfl, ?_⟩; rw [Tryz.results78]; simp only [resOk, resV, go_sem, Int.reduceBEq, Int.reduceLE, Int.reduceLT, Int.reduceNeg, Nat.reduceAdd, Nat.reduceEqDiff, Nat.reduceLT, Nat.reduceLeDiff, Nat.reduceMul, Nat.reduceSub, reduceCtorEq, ↓reduceIte]
    exact .c _
  | true =>
  rw [ho] at hO
  have hki := ordered_kids ho
  obtain ⟨G, hG⟩ := exG s.nodes (range_at ho)
  have hE := rightM_eq hG (range_at ho)
  have hWt := rweights_told s hl hs (fun p x hx => by
    unfold fieldsAt at hx
    split at hx
    · rename_i n hn
      split at hx
      · rename_i h9
        exact range_kinds ho n (List.mem_of_getElem? hn) h9 x hx
      · simp at hx
    · simp at hx) _ fun l' h he => gList hG (range_at ho) h he
  simp only [ST.av_eq, scells_mk, List.map_cons, List.map_nil] at hWt
  have hGl : (((List.range s.nodes.length).map G).map iPV).length = s.nodes.length := by simp
  have hGx : ∀ i, i < s.nodes.length → (((List.range s.nodes.length).map G).map iPV)[i]? = some (iPV (G i)) := fun i hi => by rw [List.getElem?_map, List.getElem?_map, List.getElem?_range hi]; rfl
  generalize ((List.range s.nodes.length).map G).map iPV = W at hWt hGl hGx
  have hnm : ∀ i, (namesM (s.nodes.take i)).length ≤ 1000000 := fun i => by
    have := names_len (s.nodes.take i)
    rw [List.length_take] at this
    omega
  refine VC.told ent_78 Tryz.func78 rfl Tryz.ntmps78 (by simp) (by first | rfl | simp [AV.pureB, AV.pureL, pureL_c, pures]) (by first | rfl | simp [AV.pureB, AV.pureL, pureL_c, pures]) fun hb => ?_
  clear hb
  refine walkG ?_
  refine walkC (hO) ?_
  refine walkB ?_
  refine walkC (hWt) ?_
  refine walkG ?_
  refine VC.nil 4 9 1 (by rfl) (by trivial) (by rfl) ?_
  refine VC.loop (ι := {i : Nat // i ≤ s.nodes.length ∧ ∀ (j : Nat) (n : NT), j < i → s.nodes[j]? = some n → nodeM s.nodes n = true ∧ G j ≤ 1000})
    (fun q => [(1, .ref 0 1 0 0), (3, .c (.sl 1 W)), (4, .row 80 (namesM (s.nodes.take q.1)).length), (5, .c (.v (.int .i64 (q.1 : Int))))])
    (fun q => [(0, ⟨false, 24, 2, [s.cells.map .c]⟩), (80, ⟨true, 9, 1, rA sPV (namesM (s.nodes.take q.1))⟩)]) 800 (fun q => s.nodes.length - q.1)
    ⟨0, Nat.zero_le _, fun j n h => by omega⟩ ?_ ?_
  · simp only [rA_len, rA_sc, rA_nil, scells_mk, Weak, eq_self, used_is, sc_any, sc_c, sc_pp, sc_ref, sc_row, sc_agg, sc_fn, ScL, some_imp, List.forall_mem_map, go_sem, Int.reduceBEq, Int.reduceLE, Int.reduceLT, Int.reduceNeg, Nat.reduceAdd, Nat.reduceEqDiff, Nat.reduceLT, Nat.reduceLeDiff, Nat.reduceMul, Nat.reduceSub, reduceCtorEq, ↓reduceIte]
    simp [namesM, rA_nil]
  rintro ⟨i, hi, ht⟩
  simp only []
  refine walkGF (@scells_mk) ?_
  refine VC.cond (by rfl) (by trivial) (fun hc => ?_) (fun hc => ?_)
  · have hlt : i < s.nodes.length := by simp at hc; omega
    obtain ⟨n, hn⟩ : ∃ n, s.nodes[i]? = some n := ⟨s.nodes[i], List.getElem?_eq_getElem hlt⟩
    have hnp : (s.nodes.map NT.cells)[i]? = some n.cells := by rw [List.getElem?_map, hn]; rfl
    have hw : IntKind.i64.wrap ((i : Int) + 1) = (i : Int) + 1 := wrap64_id (by omega) (by omega)
    have hmem := List.mem_of_getElem? hn
    have hNd := rnode_told s n (hs n hmem) (fun h13 k hk => hki n hmem k (by rw [kidsN, if_neg (by omega), if_neg (by omega), if_pos h13]; exact hk)) (hdp n hmem)
    have hNm := rnamed10_told n.kind
    simp only [ST.av_eq, scells_mk, NT.av_eq, ncells_mk, List.map_cons, List.map_nil] at hNd
    have hWx := hGx i hlt
    have hnl : (rA sPV (namesM (s.nodes.take i))).length = (namesM (s.nodes.take i)).length := rA_len _ _
    have hnt := namesM_take hn
    have hni := hnm i
    cases hnn : nodeM s.nodes n with
    | false =>
      have hf : V = false := by
        cases h : V with
        | false => rfl
        | true =>
          rw [hV, hE] at h
          rw [h.2.1 n hmem] at hnn
          exact absurd hnn (by simp)
      subst hf
      rw [hnn] at hNd
      refine walkGF (And.intro @scells_mk (And.intro hnp @ncells_mk)) ?_
      refine walkC (hNd) ?_
      refine walkB ?_
      refine ⟨by first | exact .inr rfl | exact .inl rfl, ?_⟩; rw [Tryz.results78]; simp only [resOk, resV, go_sem, Int.reduceBEq, Int.reduceLE, Int.reduceLT, Int.reduceNeg, Nat.reduceAdd, Nat.reduceEqDiff, Nat.reduceLT, Nat.reduceLeDiff, Nat.reduceMul, Nat.reduceSub, reduceCtorEq, ↓reduceIte]
      exact .c _
    | true =>
      rw [hnn] at hNd
      refine walkGF (And.intro @scells_mk (And.intro hnp @ncells_mk)) ?_
      refine walkC (hNd) ?_
      refine walkGF (And.intro hWx (And.intro @iPV_eq hGl)) ?_
      refine VC.cond (by rfl) (by trivial) (fun hc2 => ?_) (fun hc2 => ?_)
      · have hf : V = false := by
          cases h : V with
          | false => rfl
          | true =>
            rw [hV, hE] at h
            have := h.2.2.1 i hlt
            simp at hc2
            omega
        subst hf
        refine walkG ?_
        refine ⟨by first | exact .inr rfl | exact .inl rfl, ?_⟩; rw [Tryz.results78]; simp only [resOk, resV, go_sem, Int.reduceBEq, Int.reduceLE, Int.reduceLT, Int.reduceNeg, Nat.reduceAdd, Nat.reduceEqDiff, Nat.reduceLT, Nat.reduceLeDiff, Nat.reduceMul, Nat.reduceSub, reduceCtorEq, ↓reduceIte]
        exact .c _
      have hg1 : G i ≤ 1000 := by simp at hc2; omega
      refine walkGF (And.intro @scells_mk (And.intro hnp @ncells_mk)) ?_
      refine walkC (hNm) ?_
      refine walkG ?_
      have hnext : ∀ (j : Nat) (m : NT), j < i + 1 → s.nodes[j]? = some m → nodeM s.nodes m = true ∧ G j ≤ 1000 := fun j m hj hm => by
        by_cases hji : j < i
        · exact ht j m hji hm
        · obtain rfl : j = i := by omega
          rw [hn] at hm
          obtain rfl := Option.some.inj hm
          exact ⟨hnn, hg1⟩
      refine VC.cond (by rfl) (by trivial) (fun hc3 => ?_) (fun hc3 => ?_)
      · rw [if_pos hc3] at hnt
        have hr : rA sPV (namesM (s.nodes.take i)) ++ [[.c (.v (.string (str n.name)))]] = rA sPV (namesM (s.nodes.take (i + 1))) := by
          rw [hnt]
          exact rA_one sPV _ n.name
        have hl2 : (namesM (s.nodes.take (i + 1))).length = (namesM (s.nodes.take i)).length + 1 := by rw [hnt]; simp
        refine walkGF (And.intro @scells_mk (And.intro hnp (And.intro @ncells_mk (And.intro hnl (And.intro hr hw))))) ?_
        refine .next ⟨i + 1, by omega, hnext⟩ ?_ (by simp only []; omega)
        simp only [rA_len, rA_sc, scells_mk, hl2, Weak, eq_self, used_is, sc_any, sc_c, sc_pp, sc_ref, sc_row, sc_agg, sc_fn, ScL, some_imp, List.forall_mem_map, go_sem, Int.reduceBEq, Int.reduceLE, Int.reduceLT, Int.reduceNeg, Nat.reduceAdd, Nat.reduceEqDiff, Nat.reduceLT, Nat.reduceLeDiff, Nat.reduceMul, Nat.reduceSub, reduceCtorEq, ↓reduceIte]
        exact ⟨cI (by omega), Nat.le_refl _⟩
      · rw [if_neg (by rw [hc3]; simp), List.append_nil] at hnt
        refine walkGF (hw) ?_
        refine .next ⟨i + 1, by omega, hnext⟩ ?_ (by simp only []; omega)
        simp only [rA_len, rA_sc, scells_mk, hnt, Weak, eq_self, used_is, sc_any, sc_c, sc_pp, sc_ref, sc_row, sc_agg, sc_fn, ScL, some_imp, List.forall_mem_map, go_sem, Int.reduceBEq, Int.reduceLE, Int.reduceLT, Int.reduceNeg, Nat.reduceAdd, Nat.reduceEqDiff, Nat.reduceLT, Nat.reduceLeDiff, Nat.reduceMul, Nat.reduceSub, reduceCtorEq, ↓reduceIte]
        exact ⟨cI (by omega), Nat.le_refl _⟩
  · have hie : i = s.nodes.length := by simp at hc; omega
    have htk : s.nodes.take i = s.nodes := by rw [hie, List.take_length]
    rw [htk]
    have hnm0 := hnm i
    rw [htk] at hnm0
    have hf : V = decide (namesM s.nodes).Nodup := by
      rw [hV, Bool.eq_iff_iff, hE, decide_eq_true_eq]
      constructor
      · exact fun h => h.2.2.2
      · refine fun h => ⟨ho, fun m hm => ?_, fun j hj => ?_, h⟩
        · obtain ⟨j, hj⟩ := List.getElem?_of_mem hm
          exact (ht j m (by have := (List.getElem?_eq_some_iff.1 hj).1; omega) hj).1
        · exact (ht j _ (by omega) (List.getElem?_eq_getElem hj)).2
    have hO2 := ronce_told (namesM s.nodes) (by omega)
    rw [← hf] at hO2
    have hrl : (rA sPV (namesM s.nodes)).length = (namesM s.nodes).length := rA_len _ _
    refine walkGF (hrl) ?_
    (refine AO.step fun K hK => ?_; simp only [go_sem, Int.reduceBEq, Int.reduceLE, Int.reduceLT, Int.reduceNeg, Nat.reduceAdd, Nat.reduceEqDiff, Nat.reduceLT, Nat.reduceLeDiff, Nat.reduceMul, Nat.reduceSub, reduceCtorEq, ↓reduceIte, hrl]; (first | refine gsel_go ?_ | skip))
    refine .inr (.inl ⟨.c (.v (.bool V)), [.c (.sl 1 ((namesM s.nodes).map sPV))], [80], ⟨by simp [AV.pureL, AV.pureB], rfl, fun k x z h5 h6 => ?_, rfl, hO2⟩, hK _ _ _ ?_⟩)
    · match k with
      | 0 =>
        obtain rfl := Option.some.inj h5
        obtain rfl := Option.some.inj h6
        exact View.row (B := ⟨true, 9, 1, rA sPV (namesM s.nodes)⟩) (es := (namesM s.nodes).map sPV) rfl rfl hrl (rA_pv _ _)
      | k + 1 => simp at h5
    clear hK K
    refine walkG ?_
    refine ⟨by first | exact .inr rfl | exact .inl rfl, ?_⟩; rw [Tryz.results78]; simp only [resOk, resV, go_sem, Int.reduceBEq, Int.reduceLE, Int.reduceLT, Int.reduceNeg, Nat.reduceAdd, Nat.reduceEqDiff, Nat.reduceLT, Nat.reduceLeDiff, Nat.reduceMul, Nat.reduceSub, reduceCtorEq, ↓reduceIte]
    exact .c _

set_option maxHeartbeats 1600000 in
theorem rfnode_told (s : ST) (hs : s.sm 1000000) (hk : PutOk s.nodes) (hR : ∀ k, (mQuote (nameAt s.nodes k)).length ≤ 15002) (hB : (s.nodes.map (nodeW 15002)).sum ≤ 38750000) : ∀ (d : Nat) (k : Int) (p : Nat), KidOk s.nodes d k p → p ≤ s.nodes.length →
    Told Tryz.prog 113 [s.av, .c (.v (.int .i64 k)), .c (.v (.int .i64 (p : Int)))] (.tup [.c (.v (.string (str (formN s.nodes d k.toNat p).1))), .c (.v (.int .i64 ((formN s.nodes d k.toNat p).2 : Int)))]) := by
  have hns := hs.1
  have hz : ∀ n ∈ s.nodes, -9223372036854775808 ≤ n.size ∧ n.size ≤ 9223372036854775807 := fun n hn => (hk n hn).2.2.2.2.2
  intro d
  induction d with
  | zero =>
    intro k p hkid hp
    obtain ⟨q, rfl⟩ : ∃ q : Nat, k = (q : Int) := ⟨k.toNat, by have := hkid.1; omega⟩
    rw [Int.toNat_natCast]
    obtain ⟨h0, h | ⟨hlt, hnm⟩⟩ := hkid
    · have h := h.2
      rw [walkM] at h
      simp at h
    · rw [Int.toNat_natCast] at hlt hnm
      exact rnode_met s hk hns 0 q p (by omega) hlt hnm
  | succ d ih =>
  intro k p hkid hp
  have hsmall := form_small hR hz hB (by omega) hkid
  obtain ⟨q, rfl⟩ : ∃ q : Nat, k = (q : Int) := ⟨k.toNat, by have := hkid.1; omega⟩
  rw [Int.toNat_natCast] at hsmall ⊢
  obtain ⟨h0, h | h⟩ := hkid
  rotate_left
  · rw [Int.toNat_natCast] at h
    exact rnode_met s hk hns (d + 1) q p (by omega) h.1 h.2
  obtain ⟨hqp, hw⟩ := h
  rw [Int.toNat_natCast] at hqp
  subst hqp
  rw [walkM] at hw
  obtain ⟨n, hn⟩ : ∃ n, s.nodes[q]? = some n := by
    cases hq : s.nodes[q]? with
    | none => rw [hq] at hw; simp at hw
    | some n => exact ⟨n, rfl⟩
  rw [hn] at hw
  simp only [] at hw
  have hq1 := (List.getElem?_eq_some_iff.1 hn).1
  by_cases h8 : n.kind ≤ 8
  · exact rnode_word s hk hns d q n hn h8
  have hpl := (walkK_place (form_place s.nodes d) (kidsN n) (q + 1) _ (Prod.ext hw rfl)).2
  have hpe : placeF (formN s.nodes d) (kidsN n) (q + 1) = placeF (formN s.nodes d) ((kidsN n).take (kidsN n).length) (q + 1) := by rw [List.take_length]
  have hPl : ∀ i, placeF (formN s.nodes d) ((kidsN n).take i) (q + 1) ≤ s.nodes.length := fun i => placeF_le (formN_le s.nodes d) _ _ (by omega)
  rw [formN_new s.nodes d q n hn] at hsmall ⊢
  rw [hpe]
  refine rnode_body s hs hk hns q n hn h8 (fun i => placeF (formN s.nodes d) ((kidsN n).take i) (q + 1)) (fun i => Nat.le_trans (hPl i) hns) rfl (kidF (formN s.nodes d) (kidsN n) (q + 1)) (fun i => ?_) (by simp only [] at hsmall; omega) fun i k hki => ?_
  · unfold kidF
    cases hi : (kidsN n)[i]? with
    | none => simp
    | some k =>
      have := form_small hR hz hB (by omega) (hpl i k hi)
      simp only []
      omega
  · have h1 := ih k _ (hpl i k hki) (hPl i)
    have e1 : kidF (formN s.nodes d) (kidsN n) (q + 1) i = (formN s.nodes d k.toNat (placeF (formN s.nodes d) ((kidsN n).take i) (q + 1))).1 := by rw [kidF, hki]
    rw [e1, placeF_take _ _ _ _ _ hki]
    exact h1
set_option maxRecDepth 100000 in
set_option maxHeartbeats 1600000 in
theorem rform_told (s : ST) (hs : s.sm 1000000) (hdp : ∀ n ∈ s.nodes, ∀ f ∈ n.fields, tdeep f.dflt ≤ 1000) (hput : rightM s = true → PutOk s.nodes) (hR : ∀ k, (mQuote (nameAt s.nodes k)).length ≤ 15002) (hB : (s.nodes.map (nodeW 15002)).sum ≤ 38750000) :
    Told Tryz.prog 73 [s.av] (.tup [.c (.v (.string (str (formM s).1))), .c (.v (.int .i64 (formM s).2))]) := by
  have hRt := rRight_told s hs hdp
  unfold formM
  cases hr : rightM s with
  | false =>
    rw [hr] at hRt
    rw [if_neg (by decide)]
    rw [ST.av_eq] at hRt ⊢
    refine VC.told ent_73 Tryz.func73 rfl Tryz.ntmps73 (by simp) (by first | rfl | simp [AV.pureB, AV.pureL, pureL_c, pures]) (by first | rfl | simp [AV.pureB, AV.pureL, pureL_c, pures]) fun hb => ?_
    clear hb
    refine walkGF (And.intro @len_scells (And.intro @take_scells @take_scellsC)) ?_
    refine walkCF (@pureL_c) (hRt) ?_
    refine walkB ?_
    refine ⟨by first | exact .inr rfl | exact .inl rfl, ?_⟩; rw [Tryz.results73]; simp only [resOk, resV, go_sem, Int.reduceBEq, Int.reduceLE, Int.reduceLT, Int.reduceNeg, Nat.reduceAdd, Nat.reduceEqDiff, Nat.reduceLT, Nat.reduceLeDiff, Nat.reduceMul, Nat.reduceSub, reduceCtorEq, ↓reduceIte]
    exact ⟨.c _, .c _⟩
  | true =>
  rw [hr] at hRt
  rw [if_pos rfl]
  have hO := right_ordered hr
  unfold orderedM at hO
  simp only [Bool.and_eq_true, decide_eq_true_eq] at hO
  obtain ⟨_, hns, hroot, hw, _⟩ := hO
  have hz : ∀ n ∈ s.nodes, -9223372036854775808 ≤ n.size ∧ n.size ≤ 9223372036854775807 := fun n hn => (hput hr n hn).2.2.2.2.2
  have hkid : KidOk s.nodes 33 ((0 : Nat) : Int) 0 := ⟨by omega, .inl ⟨rfl, hw⟩⟩
  have hN := rfnode_told s hs (hput hr) hR hB 33 ((0 : Nat) : Int) 0 hkid (by omega)
  have hl5 := form_small hR hz hB (by omega) hkid
  rw [Int.toNat_natCast] at hN hl5
  generalize (formN s.nodes 33 0 0).1 = o at hN hl5 ⊢
  generalize (formN s.nodes 33 0 0).2 = p at hN
  rw [ST.av_eq] at hRt hN ⊢
  by_cases hb3 : 20000 < o.length
  · rw [if_pos hb3]
    have e3 : decide ((o.length : Int) > 20000) = true := by simp; omega
    refine VC.told ent_73 Tryz.func73 rfl Tryz.ntmps73 (by simp) (by first | rfl | simp [AV.pureB, AV.pureL, pureL_c, pures]) (by first | rfl | simp [AV.pureB, AV.pureL, pureL_c, pures]) fun hb => ?_
    clear hb
    refine walkGF (And.intro @len_scells (And.intro @take_scells @take_scellsC)) ?_
    refine walkCF (@pureL_c) (hRt) ?_
    refine walkBF (And.intro @len_scells (And.intro @take_scells @take_scellsC)) ?_
    refine walkCF (@pureL_c) (hN) ?_
    refine walkBF (And.intro @str_size e3) ?_
    refine ⟨by first | exact .inr rfl | exact .inl rfl, ?_⟩; rw [Tryz.results73]; simp only [resOk, resV, go_sem, Int.reduceBEq, Int.reduceLE, Int.reduceLT, Int.reduceNeg, Nat.reduceAdd, Nat.reduceEqDiff, Nat.reduceLT, Nat.reduceLeDiff, Nat.reduceMul, Nat.reduceSub, reduceCtorEq, ↓reduceIte]
    exact ⟨.c _, .c _⟩
  rw [if_neg hb3]
  have e3 : decide ((o.length : Int) > 20000) = false := by simp; omega
  refine VC.told ent_73 Tryz.func73 rfl Tryz.ntmps73 (by simp) (by first | rfl | simp [AV.pureB, AV.pureL, pureL_c, pures]) (by first | rfl | simp [AV.pureB, AV.pureL, pureL_c, pures]) fun hb => ?_
  clear hb
  refine walkGF (And.intro @len_scells (And.intro @take_scells @take_scellsC)) ?_
  refine walkCF (@pureL_c) (hRt) ?_
  refine walkBF (And.intro @len_scells (And.intro @take_scells @take_scellsC)) ?_
  refine walkCF (@pureL_c) (hN) ?_
  refine walkBF (And.intro @str_size e3) ?_
  refine ⟨by first | exact .inr rfl | exact .inl rfl, ?_⟩; rw [Tryz.results73]; simp only [resOk, resV, go_sem, Int.reduceBEq, Int.reduceLE, Int.reduceLT, Int.reduceNeg, Nat.reduceAdd, Nat.reduceEqDiff, Nat.reduceLT, Nat.reduceLeDiff, Nat.reduceMul, Nat.reduceSub, reduceCtorEq, ↓reduceIte]
  exact ⟨.c _, .c _⟩
end

theorem indexByte_any (s : ByteArray) (c : Int) (w : World) :
    Calls Tryz.prog 110 #[.string s, .int .u8 c] w fun e w' => e = .returned (.int .i64 (Lib.indexByte s.data.toList c.toNat.toUInt8)) ∧ w = w' :=
  (Tryz.strings_IndexByte s c w).mono fun e w' h => ⟨h.1, h.2.symm⟩
def hexs : List UInt8 := [48, 49, 50, 51, 52, 53, 54, 55, 56, 57, 97, 98, 99, 100, 101, 102]
def nib (c : UInt8) : Option Nat := if 48 ≤ c.toNat ∧ c.toNat ≤ 57 then some (c.toNat - 48) else if 97 ≤ c.toNat ∧ c.toNat ≤ 102 then some (c.toNat - 87) else none
theorem nib_lt {c : UInt8} {d : Nat} (h : nib c = some d) : d < 16 := by
  unfold nib at h
  split at h
  · simp at h; omega
  · split at h
    · simp at h; omega
    · simp at h
theorem nib_index_all : ∀ n : Nat, n < 256 → Lib.indexByte hexs n.toUInt8 = match nib n.toUInt8 with | some d => (d : Int) | none => -1 := by decide +kernel
theorem nib_index (c : UInt8) : Lib.indexByte hexs c = match nib c with | some d => (d : Int) | none => -1 := by
  have h := nib_index_all c.toNat c.toNat_lt
  have e : c.toNat.toUInt8 = c := by simp
  rw [e] at h; exact h
def rdh : List UInt8 → Nat → Option Nat
  | [], h => some h
  | c :: l, h => match nib c with
    | none => none
    | some d => rdh l (h * 16 + d)
def readh (l : List UInt8) : Nat × Bool := if l.length = 16 then (match rdh l 0 with | some h => (h, true) | none => (0, false)) else (0, false)
theorem rdh_append (l m : List UInt8) : ∀ h, rdh (l ++ m) h = (rdh l h).bind (rdh m) := by
  induction l with
  | nil => intro h; rfl
  | cons c l ih =>
    intro h
    simp only [List.cons_append, rdh]
    cases nib c with
    | none => rfl
    | some d => exact ih _
theorem rdh_snoc (l : List UInt8) (k h : Nat) (hk : k < l.length) (hr : rdh (l.take k) 0 = some h) :
    rdh (l.take (k + 1)) 0 = (nib (l[k]?.getD 0)).map (fun d => h * 16 + d) := by
  rw [List.take_succ_eq_append_getElem hk, rdh_append, hr, List.getElem?_eq_getElem hk]
  simp only [Option.bind_some, Option.getD_some, rdh]
  cases nib l[k] <;> rfl
theorem rdh_none (l : List UInt8) (k : Nat) (h : rdh (l.take k) 0 = none) : rdh l 0 = none := by
  have e := rdh_append (l.take k) (l.drop k) 0
  rw [List.take_append_drop, h] at e
  exact e
theorem readh_none (l : List UInt8) (k h : Nat) (hk : k < l.length) (hr : rdh (l.take k) 0 = some h) (hn : nib (l[k]?.getD 0) = none) : readh l = (0, false) := by
  have := rdh_snoc l k h hk hr
  rw [hn] at this
  have e := rdh_none l (k + 1) this
  unfold readh
  rw [e]
  simp
theorem readh_some (l : List UInt8) (h : Nat) (hl : l.length = 16) (hr : rdh (l.take 16) 0 = some h) : readh l = (h, true) := by
  rw [List.take_of_length_le (by omega)] at hr
  unfold readh
  rw [if_pos hl, hr]
theorem shl4 (h : Nat) (hh : h < 1152921504606846976) : (h : Int) * 16 % 18446744073709551616 = ((h * 16 : Nat) : Int) := by omega
theorem or4 (h d : Nat) (hh : h < 1152921504606846976) (hd : d < 16) : bits .or .u64 ((h * 16 : Nat) : Int) (d : Int) = ((h * 16 + d : Nat) : Int) := by
  rw [bits_or_u64_nat _ _ (by omega) (by omega)]
  have := Nat.shiftLeft_add_eq_or_of_lt (i := 4) (b := d) hd h
  rw [Nat.shiftLeft_eq] at this
  simp at this
  rw [this]
theorem pow16 (k : Nat) (hk : k < 16) : 16 ^ k ≤ 1152921504606846976 := by
  have := Nat.pow_le_pow_right (n := 16) (by omega) (show k ≤ 15 from by omega)
  exact this
def fstep (h : Nat) : Nat := if h % 2 = 1 then h / 2 ^^^ 13933329357911598997 else h / 2
theorem fstep_lt (h : Nat) (hh : h < 18446744073709551616) : fstep h < 18446744073709551616 := by
  unfold fstep
  split
  · exact Nat.xor_lt_two_pow (n := 64) (by omega) (by omega)
  · omega
theorem fstep_odd (h : Nat) (hh : h < 18446744073709551616) (o : h % 2 = 1) : bits BinOp.xor IntKind.u64 ((h : Int) / 2) 13933329357911598997 = (fstep h : Int) := by
  have := bits_xor_u64_nat (h / 2) 13933329357911598997 (by omega) (by omega)
  unfold fstep; rw [if_pos o]; exact this
set_option maxHeartbeats 400000 in
theorem step_any (h : Nat) (w : World) (hh : h < 18446744073709551616) :
    Calls Tryz.prog 190 #[.int .u64 h] w fun e w' => e = .returned (.int .u64 (fstep h)) ∧ w = w' := by
  have ha := and_one_u64 (h : Int) (by omega) (by omega)
  by_cases o : h % 2 = 1
  · have hb : ((bits BinOp.and IntKind.u64 h 1) == 1) = true := by rw [ha]; simp; omega
    have hc := fstep_odd h hh o
    clear ha
    go_enter Tryz.func190, Tryz.ntmps190
    go_wp2
    go_ret
    exact ⟨rfl, rfl⟩
  · have hb : ((bits BinOp.and IntKind.u64 h 1) == 1) = false := by rw [ha]; simp; omega
    have hc : (h : Int) / 2 = (fstep h : Int) := by unfold fstep; rw [if_neg o]; omega
    clear ha
    go_enter Tryz.func190, Tryz.ntmps190
    go_wp2
    go_ret
    exact ⟨rfl, rfl⟩
def fsteps : Nat → Nat → Nat
  | 0, x => x
  | n + 1, x => fstep (fsteps n x)
theorem fsteps_lt (n x : Nat) (hx : x < 18446744073709551616) : fsteps n x < 18446744073709551616 := by
  induction n with
  | zero => exact hx
  | succ n ih => exact fstep_lt _ ih
def fbyte (h : Nat) (c : UInt8) : Nat := fsteps 8 (h ^^^ c.toNat)
theorem fbyte_lt (h : Nat) (c : UInt8) (hh : h < 18446744073709551616) : fbyte h c < 18446744073709551616 := by
  have := c.toNat_lt
  exact fsteps_lt _ _ (Nat.xor_lt_two_pow (n := 64) (by omega) (by omega))
def fmore (h : Nat) (l : List UInt8) : Nat := l.foldl fbyte h
theorem fmore_lt (l : List UInt8) : ∀ h, h < 18446744073709551616 → fmore h l < 18446744073709551616 := by
  induction l with
  | nil => exact fun h hh => hh
  | cons c l ih => exact fun h hh => ih _ (fbyte_lt h c hh)
theorem fmore_snoc (h : Nat) (l : List UInt8) (k : Nat) (hk : k < l.length) : fmore h (l.take (k + 1)) = fbyte (fmore h (l.take k)) (l[k]?.getD 0) := by
  unfold fmore
  rw [List.take_succ_eq_append_getElem hk, List.getElem?_eq_getElem hk, List.foldl_append]
  rfl
set_option maxHeartbeats 800000 in
theorem more_any (h : Nat) (a : Option Addr) (b off c : Nat) (l : List UInt8) (w : World) (hh : h < 18446744073709551616) (hl : l.length ≤ 140737488351232) (hb : BytesAt w a b off l) :
    Calls Tryz.prog 111 #[.int .u64 h, .slice a l.length c] w fun e w' => e = .returned (.int .u64 (fmore h l)) ∧ w = w' := by
  have hi := fun (i : Int) (W : World) => hb.idx l.length c rfl i W
  have hx := fun (x y : Nat) => bits_xor_u64_nat x y
  go_enter Tryz.func111, Tryz.ntmps111
  go_wp2
  go_loop [6, 12] (fun s i => ∃ k : Nat, k ≤ l.length ∧ i = .int .i64 k ∧ s = .int .u64 (fmore h (l.take k))) (fun _ i => l.length - (intOf i).toNat)
  case atStart => exact ⟨0, Nat.zero_le _, rfl, by simp [fmore]⟩
  case round =>
    obtain ⟨k, hk, rfl, rfl⟩ := hrel
    have hf := fmore_lt (l.take k) h hh
    have hc : k < l.length → w.cell? ⟨b, off + k, none⟩ = some (.int .u8 ((l[k]?.getD 0).toNat : Int)) := hb.2 k
    have hu : (l[k]?.getD 0).toNat < 256 := (l[k]?.getD 0).toNat_lt
    by_cases hlt : k < l.length
    · have hs := Lib.hid (fmore_snoc h l k hlt)
      obtain ⟨x, hx⟩ : ∃ x, x = l[k]?.getD 0 := ⟨_, rfl⟩
      rw [← hx] at hc hu hs
      obtain ⟨y, hy⟩ : ∃ y, y = fmore h (l.take k) := ⟨_, rfl⟩
      rw [← hy] at hf hs ⊢
      have hz := fbyte_lt y x hf
      have hxx := bits_xor_u64_nat y x.toNat hf (by omega)
      have hlo : y ^^^ x.toNat < 18446744073709551616 := Nat.xor_lt_two_pow (n := 64) (by omega) (by omega)
      have hc' := hc hlt
      clear hx hy hc hb
      go_wp2
      go_loop [6, 20] (fun s i => ∃ m : Nat, m ≤ 8 ∧ i = .int .i64 m ∧ s = .int .u64 (fsteps m (y ^^^ x.toNat))) (fun _ i => 8 - (intOf i).toNat)
      case atStart => exact ⟨0, by omega, rfl, rfl⟩
      case round =>
        obtain ⟨m, hm, rfl, rfl⟩ := hrel
        have hst := fsteps_lt m _ hlo
        by_cases hlt8 : m < 8
        · go_wp2_with (go_at_call 190; refine (step_any _ _ hst).mono ?_; rintro e w' ⟨rfl, rfl⟩)
          go_round
          case rel => exact ⟨m + 1, by omega, by go_num, rfl⟩
          case measure => simp [intOf]; omega
        · obtain rfl : m = 8 := by omega
          go_wp2
          go_round
          case rel => exact ⟨k + 1, by omega, by go_num, by rw [hs.out]; rfl⟩
          case measure => simp [intOf]; omega
    · obtain rfl : k = l.length := by omega
      go_wp2
      go_ret
      exact ⟨rfl, rfl⟩
theorem half_odd (x : Nat) (o : x % 2 = 1) : fstep x = x / 2 ^^^ 13933329357911598997 := by unfold fstep; rw [if_pos o]
theorem half_even (x : Nat) (o : ¬ x % 2 = 1) : fstep x = x / 2 := by unfold fstep; rw [if_neg o]
set_option maxHeartbeats 800000 in
theorem refMore_any (h : Nat) (a : Option Addr) (b off c : Nat) (l : List UInt8) (w : World) (hh : h < 18446744073709551616) (hl : l.length ≤ 140737488351232) (hb : BytesAt w a b off l) :
    Calls Tryz.prog 114 #[.int .u64 h, .slice a l.length c] w fun e w' => e = .returned (.int .u64 (fmore h l)) ∧ w = w' := by
  have hi := fun (i : Int) (W : World) => hb.idx l.length c rfl i W
  go_enter Tryz.func114, Tryz.ntmps114
  go_wp2
  go_loop [0, 5] (fun s i => ∃ k : Nat, k ≤ l.length ∧ i = .int .i64 k ∧ s = .int .u64 (fmore h (l.take k))) (fun _ i => l.length - (intOf i).toNat)
  case atStart => exact ⟨0, Nat.zero_le _, rfl, by simp [fmore]⟩
  case round =>
    obtain ⟨k, hk, rfl, rfl⟩ := hrel
    have hf := fmore_lt (l.take k) h hh
    have hc : k < l.length → w.cell? ⟨b, off + k, none⟩ = some (.int .u8 ((l[k]?.getD 0).toNat : Int)) := hb.2 k
    have hu : (l[k]?.getD 0).toNat < 256 := (l[k]?.getD 0).toNat_lt
    by_cases hlt : k < l.length
    · have hs := Lib.hid (fmore_snoc h l k hlt)
      obtain ⟨x, hx⟩ : ∃ x, x = l[k]?.getD 0 := ⟨_, rfl⟩
      rw [← hx] at hc hu hs
      obtain ⟨y, hy⟩ : ∃ y, y = fmore h (l.take k) := ⟨_, rfl⟩
      rw [← hy] at hf hs ⊢
      have hxx := bits_xor_u64_nat y x.toNat hf (by omega)
      have hlo : y ^^^ x.toNat < 18446744073709551616 := Nat.xor_lt_two_pow (n := 64) (by omega) (by omega)
      have hc' := hc hlt
      clear hx hy hc hb
      go_wp2
      go_loop [0, 6] (fun s i => ∃ m : Nat, m ≤ 8 ∧ i = .int .i64 m ∧ s = .int .u64 (fsteps m (y ^^^ x.toNat))) (fun _ i => 8 - (intOf i).toNat)
      case atStart => exact ⟨0, by omega, rfl, rfl⟩
      case round =>
        obtain ⟨m, hm, rfl, rfl⟩ := hrel
        have hst := fsteps_lt m _ hlo
        by_cases hlt8 : m < 8
        · have hss : Hid (fsteps (m + 1) (y ^^^ x.toNat) = fstep (fsteps m (y ^^^ x.toNat))) := rfl
          obtain ⟨z, hz⟩ : ∃ z, z = fsteps m (y ^^^ x.toNat) := ⟨_, rfl⟩
          rw [← hz] at hst hss ⊢
          clear hz hxx
          have hq := bits_xor_u64_nat (z / 2) 13933329357911598997 (by omega) (by omega)
          have hodd := Lib.hid (half_odd z)
          have heven := Lib.hid (half_even z)
          by_cases o : z % 2 = 1
          · have hb : (((z : Int) % 2) == 1) = true := by simp; omega
            go_wp2
            go_round
            case rel => exact ⟨m + 1, by omega, by go_num, by rw [hss.out, hodd.out o, ← hq]; rfl⟩
            case measure => simp [intOf]; omega
          · have hb : (((z : Int) % 2) == 1) = false := by simp; omega
            go_wp2
            go_round
            case rel => exact ⟨m + 1, by omega, by go_num, by rw [hss.out, heven.out o]; rfl⟩
            case measure => simp [intOf]; omega
        · obtain rfl : m = 8 := by omega
          go_wp2
          go_round
          case rel => exact ⟨k + 1, by omega, by go_num, by rw [hs.out]; rfl⟩
          case measure => simp [intOf]; omega
    · obtain rfl : k = l.length := by omega
      go_wp2
      go_ret
      exact ⟨rfl, rfl⟩
def fempty : Nat := 13933329357911598997
def fsum (l : List UInt8) : Nat := fmore fempty l
theorem fempty_lt : fempty < 18446744073709551616 := by unfold fempty; omega
set_option maxHeartbeats 400000 in
theorem sum_any (a : Option Addr) (b off c : Nat) (l : List UInt8) (w : World) (hl : l.length ≤ 140737488351232) (hb : BytesAt w a b off l) :
    Calls Tryz.prog 70 #[.slice a l.length c] w fun e w' => e = .returned (.int .u64 (fsum l)) ∧ w = w' := by
  go_enter Tryz.func70, Tryz.ntmps70
  go_wp2_with (go_at_call 111; refine (more_any fempty a b off c l _ fempty_lt hl hb).mono ?_; rintro e w' ⟨rfl, rfl⟩)
  go_ret
  exact ⟨rfl, rfl⟩
set_option maxHeartbeats 400000 in
theorem refSum_any (a : Option Addr) (b off c : Nat) (l : List UInt8) (w : World) (hl : l.length ≤ 140737488351232) (hb : BytesAt w a b off l) :
    Calls Tryz.prog 74 #[.slice a l.length c] w fun e w' => e = .returned (.int .u64 (fsum l)) ∧ w = w' := by
  go_enter Tryz.func74, Tryz.ntmps74
  go_wp2_with (go_at_call 114; refine (refMore_any fempty a b off c l _ fempty_lt hl hb).mono ?_; rintro e w' ⟨rfl, rfl⟩)
  go_ret
  exact ⟨rfl, rfl⟩
set_option maxHeartbeats 800000 in
theorem read_any (s : ByteArray) (w : World) (hs : s.size ≤ 140737488351232) :
    Calls Tryz.prog 69 #[.string s] w fun e w' => e = .returned (.tuple #[.int .u64 (readh s.data.toList).1, .bool (readh s.data.toList).2]) ∧ w = w' := by
  by_cases h16 : s.size = 16
  · have hq : ((s.size : Int) != 16) = false := by simp; omega
    have hlen : s.data.toList.length = 16 := h16
    go_enter Tryz.func69, Tryz.ntmps69
    go_wp2
    go_loop [4, 10] (fun v i => ∃ k h : Nat, k ≤ 16 ∧ h < 16 ^ k ∧ rdh (s.data.toList.take k) 0 = some h ∧ i = .int .i64 k ∧ v = .int .u64 h) (fun _ i => 16 - (intOf i).toNat)
    case atStart => exact ⟨0, 0, by omega, by omega, rfl, rfl, rfl⟩
    case round =>
      obtain ⟨k, h, hk, hh, hr, rfl, rfl⟩ := hrel
      by_cases hlt : k < 16
      · have hidx := fun W => idxStr s k (by omega) W
        have hp := pow16 k hlt
        have hx := rdh_snoc s.data.toList k h (by omega) hr
        have hno := Lib.hid (readh_none s.data.toList k h (by omega) hr)
        obtain ⟨c, hc⟩ : ∃ c, c = s.data.toList[k]?.getD 0 := ⟨_, rfl⟩
        rw [← hc] at hidx hno hx
        replace hx := Lib.hid hx
        have hi := nib_index c
        have hcc : c.toNat.toUInt8 = c := by simp
        have hr' := Lib.hid hr
        clear hc hr
        cases hn : nib c with
        | none =>
          rw [hn] at hi hx
          have hhn := Lib.hid hn; clear hn
          have hi' := Lib.hid hi; clear hi
          have hcc' := Lib.hid hcc; clear hcc
          go_wp2_with (go_at_call 110; refine (indexByte_any _ _ _).mono ?_; rintro e w' ⟨rfl, rfl⟩; rw [Int.toNat_natCast, hcc'.out, show (ByteArray.mk #[48, 49, 50, 51, 52, 53, 54, 55, 56, 57, 97, 98, 99, 100, 101, 102]).data.toList = hexs from rfl, hi'.out])
          go_ret2
          rw [hno.out hhn.out]
          exact ⟨rfl, rfl⟩
        | some d =>
          rw [hn] at hi hx
          have hd := nib_lt hn
          clear hn
          have hi' := Lib.hid hi; clear hi
          have hcc' := Lib.hid hcc; clear hcc
          have hor := or4 h d (by omega) hd
          have hsh := shl4 h (by omega)
          go_wp2_with (go_at_call 110; refine (indexByte_any _ _ _).mono ?_; rintro e w' ⟨rfl, rfl⟩; rw [Int.toNat_natCast, hcc'.out, show (ByteArray.mk #[48, 49, 50, 51, 52, 53, 54, 55, 56, 57, 97, 98, 99, 100, 101, 102]).data.toList = hexs from rfl, hi'.out])
          go_round
          case rel => exact ⟨k + 1, h * 16 + d, by omega, by rw [Nat.pow_succ]; omega, hx.out, by go_num, by rw [← hor]; congr 2⟩
          case measure => simp [intOf]; omega
      · obtain rfl : k = 16 := by omega
        have e := Lib.hid (readh_some _ h hlen hr)
        go_wp2
        go_ret2
        rw [e.out]
        exact ⟨rfl, rfl⟩
  · have hq : ((s.size : Int) != 16) = true := by simp; omega
    have e : readh s.data.toList = (0, false) := by unfold readh; exact if_neg h16
    replace e := Lib.hid e
    go_enter Tryz.func69, Tryz.ntmps69
    go_wp2
    go_ret2
    rw [e.out]
    exact ⟨rfl, rfl⟩
def dig (d : Nat) : UInt8 := hexs[d]?.getD 0
def hexd : Nat → Nat → List UInt8
  | 0, _ => []
  | i + 1, h => dig (h / 16 ^ i % 16) :: hexd i h
theorem hexAnd15 (x : Nat) (hx : x < 18446744073709551616) : bits BinOp.and IntKind.u64 (x : Int) 15 = ((x % 16 : Nat) : Int) := by
  have h := bits_and_u64_nat x 15 hx (by omega)
  rw [show x &&& 15 = x % 16 from Nat.and_two_pow_sub_one_eq_mod x 4] at h
  exact h
theorem hexShift (h k : Nat) (hh : h < 18446744073709551616) (hk : k < 16) : bits BinOp.and IntKind.u64 ((h : Int) / 2 ^ (60 - 4 * k)) 15 = ((h / 16 ^ (15 - k) % 16 : Nat) : Int) := by
  have e : (2 : Nat) ^ (60 - 4 * k) = 16 ^ (15 - k) := by
    rw [show 60 - 4 * k = 4 * (15 - k) from by omega, Nat.pow_mul]
  have h1 : ((h : Int) / 2 ^ (60 - 4 * k)) = ((h / 16 ^ (15 - k) : Nat) : Int) := by
    rw [← e]; simp
  rw [h1]
  exact hexAnd15 _ (Nat.lt_of_le_of_lt (Nat.div_le_self _ _) hh)
theorem hexd_at (h : Nat) : ∀ n j, j < n → (hexd n h)[j]? = some (dig (h / 16 ^ (n - 1 - j) % 16)) := by
  intro n
  induction n with
  | zero => intro j hj; omega
  | succ n ih =>
    intro j hj
    cases j with
    | zero => simp [hexd]
    | succ j =>
      have := ih j (by omega)
      simp only [hexd, List.getElem?_cons_succ]
      rw [this]
      congr 5
      omega
theorem hexd_len (h : Nat) : ∀ n, (hexd n h).length = n := by
  intro n; induction n with
  | zero => rfl
  | succ n ih => simp [hexd, ih]
theorem hex_bytes (h : Nat) (w : World) (cur : Array Value) (T : TypeId) (hsz : cur.size = 16) (hcur : ∀ j, j < 16 → cur[j]? = some (.int .u8 ((dig (h / 16 ^ (15 - j) % 16)).toNat : Int))) :
    BytesAt (w.alloc (.cells cur T)) (some ⟨w.heap.size, 0, none⟩) w.heap.size 0 (hexd 16 h) := by
  refine ⟨fun _ => rfl, fun j hj => ?_⟩
  rw [hexd_len] at hj
  rw [World.cell?_alloc_at (hn := rfl), Nat.zero_add, hcur j hj, hexd_at h 16 j hj]
  rfl
set_option maxHeartbeats 800000 in
theorem hex_any (h : Nat) (w : World) (hh : h < 18446744073709551616) :
    Calls Tryz.prog 71 #[.int .u64 h] w fun e w' => e = .returned (.string (str (hexd 16 h))) ∧ Below w.heap.size w w' := by
  go_enter Tryz.func71, Tryz.ntmps71
  go_wp2
  go_loopw [5] (fun i wr => ∃ (k : Nat) (cur : Array Value), k ≤ 16 ∧ i = .int .i64 k ∧ wr = w.alloc (.cells cur 156) ∧ cur.size = 16 ∧ ∀ j, j < k → cur[j]? = some (.int .u8 ((dig (h / 16 ^ (15 - j) % 16)).toNat : Int))) (fun i _ => 16 - (intOf i).toNat)
  case atStart => exact ⟨0, _, by omega, rfl, rfl, rfl, by intro j hj; omega⟩
  case round =>
    obtain ⟨k, cur, hk, rfl, rfl, hsz, hcur⟩ := hrel
    by_cases hlt : k < 16
    · have hb := hexShift h k hh hlt
      have hcur' := Lib.hid hcur
      have hsz' := Lib.hid hsz
      have hold : cur[k]? = some (cur[k]?.getD undef) := by rw [Array.getElem?_eq_getElem (by omega)]; rfl
      obtain ⟨old, hold'⟩ : ∃ u, u = cur[k]?.getD undef := ⟨_, rfl⟩
      rw [← hold'] at hold
      obtain ⟨d, hd⟩ : ∃ d, d = h / 16 ^ (15 - k) % 16 := ⟨_, rfl⟩
      have hdl : d < 16 := by omega
      rw [← hd] at hb
      have hidx := fun W => idxStr ⟨#[48, 49, 50, 51, 52, 53, 54, 55, 56, 57, 97, 98, 99, 100, 101, 102]⟩ d hdl W .u64
      have hdg : (((ByteArray.mk #[48, 49, 50, 51, 52, 53, 54, 55, 56, 57, 97, 98, 99, 100, 101, 102]).data.toList[d]?.getD 0).toNat : Int) = ((dig d).toNat : Int) := rfl
      rw [hdg] at hidx
      replace hd := Lib.hid hd
      clear hdg hold' hcur hsz
      go_wp2
      go_roundw
      case rel =>
        refine ⟨k + 1, _, by omega, by go_num, rfl, by simpa using hsz'.out, fun j hj => ?_⟩
        rw [Array.getElem?_setIfInBounds]
        have := hsz'.out
        split
        · subst j
          rw [if_pos (by omega), hd.out]
        · exact hcur'.out j (by omega)
      case measure => simp [intOf]; omega
    · obtain rfl : k = 16 := by omega
      have hby := hex_bytes h w cur 156 hsz hcur
      have hcv := hby.toStr 16 16 (by rw [hexd_len])
      clear hcur hby hsz
      go_wp2
      go_ret
      exact ⟨rfl, (Below.refl _ _).alloc (Nat.le_refl _) _⟩
def exNull : List UInt8 := [34, 110, 117, 108, 108, 34]
def exInt : List UInt8 := [34, 105, 110, 116, 34]
def exHex : List UInt8 := [55, 50, 55, 53, 100, 53, 49, 97, 51, 102, 51, 57, 53, 99, 56, 102]
def exNum : Nat := 8247732601305521295
theorem ex1 : fsum exNull = 7195948357588979594 := by decide +kernel
theorem ex2 : fsum exInt = exNum := by decide +kernel
theorem ex3 : readh exHex = (exNum, true) := by decide +kernel
theorem ex4 : hexd 16 exNum = exHex := by decide +kernel
theorem exNum_lt : exNum < 18446744073709551616 := by decide
set_option maxHeartbeats 800000 in
theorem works16_any (w : World) :
    Calls Tryz.prog 25 #[] w fun e w' => e = .returned (.bool true) ∧ Below w.heap.size w w' := by
  have kc := bytesConst
  go_enter Tryz.func25, Tryz.ntmps25
  go_wp2_with fail
  refine (read_any _ _ (by decide)).mono ?_
  rw [show (ByteArray.mk #[55, 50, 55, 53, 100, 53, 49, 97, 51, 102, 51, 57, 53, 99, 56, 102]).data.toList = exHex from rfl, ex3]
  rintro e w' ⟨rfl, rfl⟩
  obtain ⟨X, hX⟩ : ∃ X, X = exNum := ⟨_, rfl⟩
  rw [← hX]
  replace hX := Lib.hid hX
  go_wp2_with fail
  refine (sum_any _ _ 0 6 exNull _ (by decide) (BytesAt.made w exNull _ _ _ _ rfl rfl)).mono ?_
  rintro e w' ⟨rfl, rfl⟩
  have hY : ((((fsum exNull : Nat) : Int)) == 7195948357588979594) = true := by rw [ex1]; rfl
  obtain ⟨Y, hY'⟩ : ∃ Y : Int, Y = ((fsum exNull : Nat) : Int) := ⟨_, rfl⟩
  rw [← hY'] at hY ⊢
  clear hY'
  go_wp2_with fail
  refine (sum_any _ _ 0 5 exInt _ (by decide) (BytesAt.made _ exInt _ _ _ _ (by simp) rfl)).mono ?_
  rintro e w' ⟨rfl, rfl⟩
  rw [ex2, ← hX.out]
  go_wp2_with fail
  refine (hex_any X _ (by rw [hX.out]; exact exNum_lt)).mono ?_
  rintro e w' ⟨rfl, hb⟩
  rw [hX.out, ex4, ← hX.out]
  have hL : ((str exHex).toList == [55, 50, 55, 53, 100, 53, 49, 97, 51, 102, 51, 57, 53, 99, 56, 102]) = true := by rw [str_toList]; decide
  go_wp2
  go_ret
  refine ⟨rfl, ?_⟩
  exact (((Below.refl w.heap.size w).alloc (Nat.le_refl _) _).alloc (by simp) _).trans (hb.mono (by simp; omega))
/-! In this frame. -/
theorem bytes_at6 {W : World} {ro : Nat → Prop} {l : List UInt8} {v : Value} (h : PRep W ro (.sl 1 (bytePV l)) v) : ∃ a b off c, v = .slice a l.length c ∧ BytesAt W a b off l ∧ l.length ≤ c ∧ (a = none → c = 0) := by
  have hl : (bytePV l).length = l.length := by simp [bytePV]
  generalize hz : (1 : Nat) = z at h
  generalize hes : bytePV l = es at h
  cases h with
  | @sl _ _ a c vss hn hc hnil ha hvl hz1 hz2 hx =>
    subst hz hes
    by_cases hne : l = []
    · subst hne
      exact ⟨a, 0, 0, c, rfl, ⟨fun h => absurd rfl h, fun j hj => by simp at hj⟩, by simp, hnil⟩
    · obtain ⟨b, off, rfl, _, hcell⟩ := ha (by intro e; rw [e] at hl; simp at hl; exact hne (List.eq_nil_of_length_eq_zero hl.symm))
      refine ⟨_, b, off, c, by rw [hl], ⟨fun _ => rfl, fun j hj => ?_⟩, by omega, hnil⟩
      have hv : vss[j]? = some (vss[j]'(by omega)) := List.getElem?_eq_getElem _
      have hvz := hz2 j _ hv
      have h1 := hcell j _ hv 0 (by omega)
      have h2 : (vss[j]'(by omega))[0]? = some ((vss[j]'(by omega))[0]'(by omega)) := List.getElem?_eq_getElem _
      have he : (bytePV l)[j]? = some [.v (.int .u8 ((l[j]?.getD 0).toNat : Int))] := by
        unfold bytePV
        rw [List.getElem?_map, List.getElem?_eq_getElem hj]
        rfl
      have h3 := hx j 0 _ _ (.v (.int .u8 ((l[j]?.getD 0).toNat : Int))) _ he hv rfl h2
      generalize (vss[j]'(by omega))[0]'(by omega) = u at h2 h3
      cases h3 with
      | v _ =>
        rw [Nat.add_zero, Nat.mul_one, h2] at h1
        exact h1
theorem told_bytes {P : Program} {f : FuncId} {r : Value} (hE : Enters P f) (hr : r.oneCell' = true) (l : List UInt8) (h : ∀ (W : World) (a : Option Addr) (b off c : Nat), BytesAt W a b off l → Calls P f #[.slice a l.length c] W fun e w' => e = .returned r ∧ W = w') : Told P f [.c (.sl 1 (bytePV l))] (.c (.v r)) := by
  refine ⟨hE, fun W ro vs hro hgk hl => ?_⟩
  obtain ⟨v, rfl⟩ : ∃ v, vs = [v] := by
    have := hl.1
    match vs, this with
    | [v], _ => exact ⟨v, rfl⟩
  have h1 := hl.2 0 _ _ rfl rfl
  cases h1 with
  | c hp =>
    obtain ⟨a, b, off, c, rfl, hb, _, _⟩ := bytes_at6 hp
    refine (h W a b off c hb).mono ?_
    rintro e W' ⟨rfl, rfl⟩
    exact ⟨r, ro, rfl, Below.refl _ _, fun b h => h, fun b h => ⟨.inl h, hro b h⟩, .c (.v hr), .c _⟩
theorem told_none {P : Program} {f : FuncId} {r : Value} (hE : Enters P f) (hr : r.oneCell' = true) (h : ∀ (W : World), Calls P f #[] W fun e w' => e = .returned r ∧ Below W.heap.size W w') : Told P f [] (.c (.v r)) := by
  refine ⟨hE, fun W ro vs hro hgk hl => ?_⟩
  obtain rfl : vs = [] := List.eq_nil_of_length_eq_zero hl.1
  refine (h W).mono ?_
  rintro e W' ⟨rfl, hb⟩
  exact ⟨r, ro, rfl, hb, fun b h => h, fun b h => ⟨.inl h, Nat.lt_of_lt_of_le (hro b h) hb.size⟩, .c (.v hr), .c _⟩
theorem fsum_told (l : List UInt8) (hl : l.length ≤ 1000000000) : Told Tryz.prog 70 [.c (.sl 1 (bytePV l))] (.c (.v (.int .u64 (fsum l : Int)))) :=
  told_bytes ent_70 rfl l fun W a b off c hb => sum_any a b off c l W (by omega) hb
theorem rfsum_told (l : List UInt8) (hl : l.length ≤ 1000000000) : Told Tryz.prog 74 [.c (.sl 1 (bytePV l))] (.c (.v (.int .u64 (fsum l : Int)))) :=
  told_bytes ent_74 rfl l fun W a b off c hb => refSum_any a b off c l W (by omega) hb
theorem works16_told : Told Tryz.prog 25 [] (.c (.v (.bool true))) := told_none ent_25 rfl works16_any
end Go.Proofs.YtkaogeogjjcdhaaGreatDoor
