/- Texts that lead to the law ValueConforms, joined. -/
import Derived.Test.YtmooihlndkgdaaaGreatDoorPkValueConformsE
import Derived.Test.YtmooihlndkgdaaaGreatDoorPkValueConformsC
import Derived.Test.YtmooihlndkgdaaaGreatDoorPkValueConformsD
import Derived.Test.YtmooihlndkgdaaaGreatDoorPkValueConformsXAbB
import Derived.Test.YtmooihlndkgdaaaGreatDoorPkValueConformsB
import Derived.Test.YtmooihlndkgdaaaGreatDoorPkValueConformsA
namespace Go.Proofs.YtmooihlndkgdaaaGreatDoor
open Go.RowKit
set_option linter.unusedVariables false
set_option linter.unusedSimpArgs false
section
attribute [local go_sem] opx opE ev okx gcond bnd okO AV.get AV.okb cAV upd_at putd_some putd_none wrs_nil wrs_cons look_nil look_cons st argT_at bpick_and bpick_or bpick_true bpick_false binV binI binS binVOk binOk isShift binSOk unV unVOk loadV loadP cellsA zeroA Blkd.len setE grown moreA moreR moreOk eqRes pv fillA fillE putSeg AV.cellish AV.pureL AV.pureB lentL_is ex_some AV.ren AV.renL renL_c Blkd.ren rho wrM renN lentOk rhoE keepM endOk tyA_2 tyA_3 tyA_4 tyA_5 tyA_6 tyA_7 tyA_8 tyA_9 tyA_10 tyA_11 tyA_12 tyA_13 tyA_14 tyA_15 tyA_16 tyA_17 tyA_18 tyA_19 tyA_21 tyA_22 tyA_23 tyA_24 tyA_29 tyA_30 tyA_31 tyA_32 tyA_33 tyA_34 tyA_35 tyA_36 tyA_37 tyA_38 tyA_39 tyA_40 tyA_41 tyA_42 tyA_43 tyA_51 tyA_73 tyA_77 tyA_99 tyA_100 tyA_101 tyA_114 tyA_120 tyA_121 tyA_122 tyA_131 tyA_132 tyA_133 tyA_134 tyA_135 tyA_138 tyA_139 tyA_140 tyA_149 tyA_163 tyA_168 tyA_210 tyA_212 tyA_219 tyA_227 tyA_231 tyA_233 tyA_237 tyA_238 tyA_239 tyA_240 tyA_241 tyA_243 tyA_244 tyA_246 tyA_247 tyA_248 tyA_251 Option.map_some Option.map_none Option.getD_some Option.getD_none Option.bind_some Option.bind_none List.getElem?_cons_zero List.getElem?_cons_succ List.getElem?_nil List.getElem?_toArray List.length_cons List.length_nil List.length_map List.forall_mem_map List.map_cons List.map_nil List.drop_zero List.drop_succ_cons List.drop_nil List.take_zero List.take_succ_cons List.take_nil List.mem_cons List.not_mem_nil or_false forall_eq_or_imp forall_eq List.set_cons_zero List.set_cons_succ List.cons_append List.nil_append List.append_nil List.foldl_cons List.foldl_nil List.replicate_succ List.replicate_zero List.all_cons List.all_nil if_true if_false Bool.false_eq_true ne_eq not_false_eq_true not_true_eq_false true_and and_true and_self true_implies imp_self implies_true forall_const beq_self_eq_true Bool.and_true Bool.true_and Bool.and_false Bool.false_and Bool.or_true Bool.true_or Bool.or_false Bool.false_or Bool.not_true Bool.not_false Bool.not_eq_eq_eq_not intKindOf Value.oneCell' Int.toNat_natCast beq_true beq_false Bool.not_eq_true false_implies false_or true_or or_true Nat.zero_add Nat.add_zero decide_true decide_false Int.cast_ofNat_Int Int.toNat_zero Int.toNat_one eq_self

set_option maxRecDepth 100000 in
set_option maxHeartbeats 1600000 in
theorem node_told (s : ST) (n : NT) (hsm : n.sm 1000000) (hbr : n.kind = 13 → ∀ k ∈ n.branches, 0 ≤ k ∧ k < (s.nodes.length : Int)) : Told Tryz.prog 62 [s.av, n.av] (.c (.v (.bool (nodeM s.nodes n)))) := by
  obtain ⟨V, hV⟩ : ∃ V, V = nodeM s.nodes n := ⟨_, rfl⟩
  rw [← hV]
  unfold nodeM at hV
  obtain ⟨hn1, hn2, ⟨ha1, ha2⟩, ⟨hs1, hs2⟩, hb1, hf1, hf2⟩ := hsm
  have hB := bare_told n
  have hN := named_told n.kind
  have hF := full_told n.name (by omega)
  have hKd := kind_told n.name
  have hA := all_told (g := 65) (rule := fullM) n.aliases fun x hx => full_told x (by have := ha2 x hx; omega)
  have hFi := fields_told n.fields hf1 hf2
  have hC := contains_told n.symbols n.dflt
  have hD := different_told (g := 107) (rule := simpleM) n.symbols (by omega) fun x hx => simple_told x (by have := hs2 x hx; omega)
  have hU := fun h => union_told s n.branches (hbr h) hb1
  clear hbr ha1 ha2 hs2 hf2
  simp only [NT.av_eq, ncells_mk, List.map_cons, List.map_nil] at hB
  simp only [ST.av_eq, scells_mk, List.map_cons, List.map_nil] at hU
  obtain ⟨b0, h0⟩ : ∃ b, b = bareM n := ⟨_, rfl⟩
  obtain ⟨bN, hNN⟩ : ∃ b, b = namedK n.kind := ⟨_, rfl⟩
  obtain ⟨bF, hFF⟩ : ∃ b, b = fullM n.name := ⟨_, rfl⟩
  obtain ⟨kK, hKK⟩ : ∃ b, b = kindM n.name := ⟨_, rfl⟩
  obtain ⟨bA, hAA⟩ : ∃ b, b = allM fullM n.aliases := ⟨_, rfl⟩
  rw [← h0] at hV hB
  rw [← hNN] at hV hN
  rw [← hFF] at hV hF
  rw [← hKK] at hV hKd
  rw [← hAA] at hV hA
  clear h0 hFF hKK hAA
  rw [NT.av_eq, ncells_mk, ST.av_eq, scells_mk]
  have hE : (⟨#[]⟩ : ByteArray).toList = [] := str_toList []
  refine VC.told ent_62 Tryz.func62 rfl Tryz.ntmps62 (by simp) (by first | rfl | simp [AV.pureB, AV.pureL, pureL_c, pures]) (by first | rfl | simp [AV.pureB, AV.pureL, pureL_c, pures]) fun hb => ?_
  clear hb
  refine walkG ?_
  refine walkD (hB) ?_
  refine walkG ?_
  refine VC.cond (by rfl) (by trivial) (fun hc => ?_) (fun hc => ?_)
  · have hf : V = false := by
      rw [hV]
      have : (decide (1 ≤ n.kind) && (decide (n.kind ≤ 14) && b0)) = false := by
        simp at hc ⊢
        intro h1 h2
        cases b0 with
        | false => rfl
        | true => simp at hc; omega
      rw [this]
      rfl
    subst hf
    refine walkG ?_
    refine ⟨by first | exact .inr rfl | exact .inl rfl, ?_⟩; rw [Tryz.results62]; simp only [resOk, resV, go_sem, Int.reduceBEq, Int.reduceLE, Int.reduceLT, Int.reduceNeg, Nat.reduceAdd, Nat.reduceEqDiff, Nat.reduceLT, Nat.reduceLeDiff, Nat.reduceMul, Nat.reduceSub, reduceCtorEq, ↓reduceIte]
    exact .c _
  have h1 : (decide (1 ≤ n.kind) && (decide (n.kind ≤ 14) && b0)) = true := by
    simp at hc ⊢
    exact ⟨by omega, by omega, hc.2⟩
  rw [h1, Bool.true_and] at hV
  clear h1 hc
  refine walkG ?_
  refine walkC (hN) ?_
  refine walkG ?_
  refine walkD (hF) ?_
  refine walkG ?_
  refine walkD (hKd) ?_
  refine walkG ?_
  refine walkD (hA) ?_
  refine walkG ?_
  refine VC.cond (by rfl) (by trivial) (fun hc => ?_) (fun hc => ?_)
  · have hf : V = false := by
      rw [hV]
      have : (!bN || (bF && (kK == 0 && bA))) = false := by
        cases bN <;> cases bF <;> cases bA <;> simp at hc ⊢
        simpa using hc
      rw [this]
      rfl
    subst hf
    refine walkG ?_
    refine ⟨by first | exact .inr rfl | exact .inl rfl, ?_⟩; rw [Tryz.results62]; simp only [resOk, resV, go_sem, Int.reduceBEq, Int.reduceLE, Int.reduceLT, Int.reduceNeg, Nat.reduceAdd, Nat.reduceEqDiff, Nat.reduceLT, Nat.reduceLeDiff, Nat.reduceMul, Nat.reduceSub, reduceCtorEq, ↓reduceIte]
    exact .c _
  have h1 : (!bN || (bF && (kK == 0 && bA))) = true := by
    cases bN <;> cases bF <;> cases bA <;> simp at hc ⊢
    simpa using hc
  rw [h1, Bool.true_and] at hV
  clear h1 hc hN hF hKd hA hB
  by_cases h9 : n.kind = 9
  · rw [if_pos h9] at hV
    subst hV
    rw [h9]
    refine walkB ?_
    refine walkC (hFi) ?_
    refine walkG ?_
    refine ⟨by first | exact .inr rfl | exact .inl rfl, ?_⟩; rw [Tryz.results62]; simp only [resOk, resV, go_sem, Int.reduceBEq, Int.reduceLE, Int.reduceLT, Int.reduceNeg, Nat.reduceAdd, Nat.reduceEqDiff, Nat.reduceLT, Nat.reduceLeDiff, Nat.reduceMul, Nat.reduceSub, reduceCtorEq, ↓reduceIte]
    exact .c _
  by_cases h10 : n.kind = 10
  · rw [if_neg h9, if_pos h10] at hV
    rw [h10]
    obtain ⟨bC, hCC⟩ : ∃ b, b = n.symbols.contains n.dflt := ⟨_, rfl⟩
    obtain ⟨bD, hDD⟩ : ∃ b, b = diffM simpleM n.symbols := ⟨_, rfl⟩
    rw [← hCC] at hV hC
    rw [← hDD] at hV hD
    clear hCC hDD
    refine walkB ?_
    refine walkC (hC) ?_
    refine walkGF (And.intro @str_toList hE) ?_
    refine VC.cond (by rfl) (by trivial) (fun hc => ?_) (fun hc => ?_)
    · have hf : V = false := by
        rw [hV]
        have : ((n.has == bC) && (n.has || n.dflt.isEmpty)) = false := by
          cases hh : n.has <;> cases bC <;> cases hd : n.dflt <;> simp [hh, hd] at hc ⊢
        rw [this]
        rfl
      subst hf
      refine walkG ?_
      refine ⟨by first | exact .inr rfl | exact .inl rfl, ?_⟩; rw [Tryz.results62]; simp only [resOk, resV, go_sem, Int.reduceBEq, Int.reduceLE, Int.reduceLT, Int.reduceNeg, Nat.reduceAdd, Nat.reduceEqDiff, Nat.reduceLT, Nat.reduceLeDiff, Nat.reduceMul, Nat.reduceSub, reduceCtorEq, ↓reduceIte]
      exact .c _
    · have h1 : ((n.has == bC) && (n.has || n.dflt.isEmpty)) = true := by
        cases hh : n.has <;> cases bC <;> cases hd : n.dflt <;> simp [hh, hd] at hc ⊢
      rw [h1, Bool.true_and] at hV
      have hv : V = ((decide ((n.symbols.length : Int) ≥ 1) && decide ((n.symbols.length : Int) ≤ 40)) && bD) := by
        rw [hV, Bool.and_assoc]
        congr 1
        · simp
          omega
        · congr 1
          simp
          omega
      clear hV hc h1
      replace hv := Lib.hid hv
      refine walkG ?_
      refine walkD (hD) ?_
      refine walkG ?_
      refine ⟨by first | exact .inr rfl | exact .inl rfl, ?_⟩; rw [Tryz.results62]; simp only [resOk, resV, go_sem, Int.reduceBEq, Int.reduceLE, Int.reduceLT, Int.reduceNeg, Nat.reduceAdd, Nat.reduceEqDiff, Nat.reduceLT, Nat.reduceLeDiff, Nat.reduceMul, Nat.reduceSub, reduceCtorEq, ↓reduceIte]
      rw [hv.out]
      exact .c _
  by_cases h14 : n.kind = 14
  · rw [if_neg h9, if_neg h10, if_pos h14] at hV
    rw [h14]
    refine walkB ?_
    refine ⟨by first | exact .inr rfl | exact .inl rfl, ?_⟩; rw [Tryz.results62]; simp only [resOk, resV, go_sem, Int.reduceBEq, Int.reduceLE, Int.reduceLT, Int.reduceNeg, Nat.reduceAdd, Nat.reduceEqDiff, Nat.reduceLT, Nat.reduceLeDiff, Nat.reduceMul, Nat.reduceSub, reduceCtorEq, ↓reduceIte]
    rw [hV]
    exact .c _
  by_cases h13 : n.kind = 13
  · rw [if_neg h9, if_neg h10, if_neg h14, if_pos h13] at hV
    subst hV
    rw [h13]
    have hU := hU h13
    refine walkB ?_
    refine walkC (hU) ?_
    refine walkG ?_
    refine ⟨by first | exact .inr rfl | exact .inl rfl, ?_⟩; rw [Tryz.results62]; simp only [resOk, resV, go_sem, Int.reduceBEq, Int.reduceLE, Int.reduceLT, Int.reduceNeg, Nat.reduceAdd, Nat.reduceEqDiff, Nat.reduceLT, Nat.reduceLeDiff, Nat.reduceMul, Nat.reduceSub, reduceCtorEq, ↓reduceIte]
    exact .c _
  · rw [if_neg h9, if_neg h10, if_neg h14, if_neg h13] at hV
    subst hV
    have e9 : (n.kind == 9) = false := by simpa using h9
    have e10 : (n.kind == 10) = false := by simpa using h10
    have e14 : (n.kind == 14) = false := by simpa using h14
    have e13 : (n.kind == 13) = false := by simpa using h13
    refine walkBF (And.intro e9 (And.intro e10 (And.intro e14 e13))) ?_
    refine ⟨by first | exact .inr rfl | exact .inl rfl, ?_⟩; rw [Tryz.results62]; simp only [resOk, resV, go_sem, Int.reduceBEq, Int.reduceLE, Int.reduceLT, Int.reduceNeg, Nat.reduceAdd, Nat.reduceEqDiff, Nat.reduceLT, Nat.reduceLeDiff, Nat.reduceMul, Nat.reduceSub, reduceCtorEq, ↓reduceIte]
    exact .c _

def partN (n : NT) : NT := ⟨n.kind, if namedK n.kind = true then n.name else [], if namedK n.kind = true then n.aliases else [], if n.kind = 9 then n.fields else [], if n.kind = 10 then n.symbols else [], if n.kind = 10 then n.has else false,
  if n.kind = 10 then n.dflt else [], if n.kind = 14 then n.size else 0, if n.kind = 11 ∨ n.kind = 12 then n.items else 0, if n.kind = 13 then n.branches else []⟩
theorem bareM_part (n : NT) : bareM n = ceq n (partN n) := by
  obtain ⟨k, a, b, c, d, e, f, g, h, i⟩ := n
  rw [Bool.eq_iff_iff, ceq_iff, partN, NT.mk.injEq, bareM]
  simp only [Bool.and_eq_true, Bool.or_eq_true, List.isEmpty_iff, beq_iff_eq, Bool.not_eq_true', true_and]
  constructor
  · rintro ⟨h1, h2, h3, h4, h5, h6⟩
    refine ⟨?_, ?_, ?_, ?_, ?_, ?_, ?_, ?_, ?_⟩
    · split
      · rfl
      · rename_i hn
        rcases h1 with h1 | h1
        · exact absurd h1 hn
        · exact h1.1
    · split
      · rfl
      · rename_i hn
        rcases h1 with h1 | h1
        · exact absurd h1 hn
        · exact h1.2
    · split
      · rfl
      · rename_i hn
        rcases h2 with h2 | h2
        · exact absurd h2 hn
        · exact h2
    · split
      · rfl
      · rename_i hn
        rcases h3 with h3 | h3
        · exact absurd h3 hn
        · exact h3.1
    · split
      · rfl
      · rename_i hn
        rcases h3 with h3 | h3
        · exact absurd h3 hn
        · exact h3.2.1
    · split
      · rfl
      · rename_i hn
        rcases h3 with h3 | h3
        · exact absurd h3 hn
        · exact h3.2.2
    · split
      · rfl
      · rename_i hn
        rcases h4 with h4 | h4
        · exact absurd h4 hn
        · exact h4
    · split
      · rfl
      · rename_i hn
        rcases h5 with (h5 | h5) | h5
        · exact absurd (.inl h5) hn
        · exact absurd (.inr h5) hn
        · exact h5
    · split
      · rfl
      · rename_i hn
        rcases h6 with h6 | h6
        · exact absurd h6 hn
        · exact h6
  · rintro ⟨h1, h2, h3, h4, h5, h6, h7, h8, h9⟩
    refine ⟨?_, ?_, ?_, ?_, ?_, ?_⟩
    · by_cases hn : namedK k = true
      · exact .inl hn
      · rw [if_neg hn] at h1 h2
        exact .inr ⟨h1, h2⟩
    · by_cases hn : k = 9
      · exact .inl hn
      · rw [if_neg hn] at h3
        exact .inr h3
    · by_cases hn : k = 10
      · exact .inl hn
      · rw [if_neg hn] at h4 h5 h6
        exact .inr ⟨h4, h5, h6⟩
    · by_cases hn : k = 14
      · exact .inl hn
      · rw [if_neg hn] at h7
        exact .inr h7
    · by_cases hn : k = 11 ∨ k = 12
      · rcases hn with hn | hn
        · exact .inl (.inl hn)
        · exact .inl (.inr hn)
      · rw [if_neg hn] at h8
        exact .inr h8
    · by_cases hn : k = 13
      · exact .inl hn
      · rw [if_neg hn] at h9
        exact .inr h9
theorem branchesM_snoc {ns : List NT} : ∀ (l d : List Int) (k : Int), branchesM ns d (l ++ [k]) = (branchesM ns d l && branchM ns (d ++ l) k)
  | [], d, k => by simp [branchesM]
  | x :: l, d, k => by
    rw [List.cons_append, branchesM, branchesM, branchesM_snoc l (d ++ [x]) k, Bool.and_assoc, List.append_assoc]
    rfl
theorem rsame10_told (a b : NT) : Told Tryz.prog 139 [a.av, b.av] (.c (.v (.bool (ceq a b)))) := by
  have hO := rone_told a b
  obtain ⟨V, hV⟩ : ∃ V, V = ceq a b := ⟨_, rfl⟩
  rw [← hV] at hO ⊢
  simp only [NT.av_eq] at hO
  rw [NT.av_eq, NT.av_eq]
  refine VC.told ent_139 Tryz.func139 rfl Tryz.ntmps139 (by simp) (by first | rfl | simp [AV.pureB, AV.pureL, pureL_c, pures]) (by first | rfl | simp [AV.pureB, AV.pureL, pureL_c, pures]) fun hb => ?_
  clear hb
  refine walkGF (And.intro @len_ncells (And.intro @take_ncells @take_ncellsC)) ?_
  refine walkCF (@pureL_c) (hO) ?_
  refine walkG ?_
  refine ⟨by first | exact .inr rfl | exact .inl rfl, ?_⟩; rw [Tryz.results139]; simp only [resOk, resV, go_sem, Int.reduceBEq, Int.reduceLE, Int.reduceLT, Int.reduceNeg, Nat.reduceAdd, Nat.reduceEqDiff, Nat.reduceLT, Nat.reduceLeDiff, Nat.reduceMul, Nat.reduceSub, reduceCtorEq, ↓reduceIte]
  exact .c _
def okN (n : NT) : Bool := !namedK n.kind || (fullM n.name && (kindM n.name == 0 && allM fullM n.aliases))
set_option maxRecDepth 100000 in
set_option maxHeartbeats 3200000 in
theorem rnode_told (s : ST) (n : NT) (hsm : n.sm 1000000) (hbr : n.kind = 13 → ∀ k ∈ n.branches, 0 ≤ k ∧ k < (s.nodes.length : Int)) (hdp : ∀ f ∈ n.fields, tdeep f.dflt ≤ 1000) : Told Tryz.prog 97 [s.av, n.av] (.c (.v (.bool (nodeM s.nodes n)))) := by
  obtain ⟨V, hV⟩ : ∃ V, V = nodeM s.nodes n := ⟨_, rfl⟩
  rw [← hV]
  unfold nodeM at hV
  obtain ⟨hn1, hn2, ⟨ha1, ha2⟩, ⟨hs1, hs2⟩, hb1, hf1, hf2⟩ := hsm
  have hN := rnamed10_told n.kind
  have hF := rfull_told n.name (by omega)
  have hKd := rkind_told n.name
  have hSame := rsame10_told n (partN n)
  rw [← bareM_part] at hSame
  have hpart : partN n = partN n := rfl
  obtain ⟨bB, hBB⟩ : ∃ b, b = bareM n := ⟨_, rfl⟩
  rw [← hBB] at hV hSame
  obtain ⟨X, hX⟩ : ∃ X, X = okN n := ⟨_, rfl⟩
  have hX0 := hX
  unfold okN at hX0
  rw [← hX0] at hV
  obtain ⟨bF, hFF⟩ : ∃ b, b = fullM n.name := ⟨_, rfl⟩
  obtain ⟨kK, hKK⟩ : ∃ b, b = kindM n.name := ⟨_, rfl⟩
  rw [← hFF] at hX0 hF
  rw [← hKK] at hX0 hKd
  rw [NT.av_eq, ncells_mk, ST.av_eq, scells_mk]
  simp only [NT.av_eq] at hSame
  refine VC.told ent_97 Tryz.func97 rfl Tryz.ntmps97 (by simp) (by first | rfl | simp [AV.pureB, AV.pureL, pureL_c, pures]) (by first | rfl | simp [AV.pureB, AV.pureL, pureL_c, pures]) fun hb => ?_
  clear hb
  (refine VC.seq ?_; (first | refine VC.region (by rfl) (by rfl) ?_ | refine VC.draw mixP (by rfl) (by rfl) ?_); (repeat (refine AO.step fun K hK => ?_; simp only [go_sem, Int.reduceBEq, Int.reduceLE, Int.reduceLT, Int.reduceNeg, Nat.reduceAdd, Nat.reduceEqDiff, Nat.reduceLT, Nat.reduceLeDiff, Nat.reduceMul, Nat.reduceSub, reduceCtorEq, ↓reduceIte]; (first | refine gsel_skip ?_ | refine gsel_go ?_ | skip); (first | refine hK _ _ _ ?_ | refine ⟨by first | omega | exact ⟨_, rfl, rfl⟩ | exact fun _ => ⟨_, rfl, rfl⟩ | (intro h; simp only [h, true_and]; omega) | (clear hK; intro h; simp_all <;> omega), hK _ _ _ ?_⟩); clear hK K)); refine AO.nil ?_; first | refine SQ.normal ?_ | refine ⟨okd_of (by kernel_rfl), SQ.normal ?_⟩)
  (refine VC.seq ?_; (first | refine VC.region (by rfl) (by rfl) ?_ | refine VC.draw mixP (by rfl) (by rfl) ?_); (repeat (refine AO.step fun K hK => ?_; simp only [go_sem, Int.reduceBEq, Int.reduceLE, Int.reduceLT, Int.reduceNeg, Nat.reduceAdd, Nat.reduceEqDiff, Nat.reduceLT, Nat.reduceLeDiff, Nat.reduceMul, Nat.reduceSub, reduceCtorEq, ↓reduceIte]; (first | refine gsel_skip ?_ | refine gsel_go ?_ | skip); (first | refine hK _ _ _ ?_ | refine ⟨by first | omega | exact ⟨_, rfl, rfl⟩ | exact fun _ => ⟨_, rfl, rfl⟩ | (intro h; simp only [h, true_and]; omega) | (clear hK; intro h; simp_all <;> omega), hK _ _ _ ?_⟩); clear hK K)); refine AO.nil ?_; first | refine SQ.normal ?_ | refine ⟨okd_of (by kernel_rfl), SQ.normal ?_⟩)
  refine VC.frz [] [(2, .ref 0 1 0 0), (3, .ref 8 1 0 0), (5, .ref 48 1 0 0)] [(0, ⟨false, 24, 2, [s.cells.map .c]⟩), (8, ⟨false, 33, 10, [n.cells.map .c]⟩), (48, ⟨false, 33, 10, [(⟨n.kind, [], [], [], [], false, [], 0, 0, []⟩ : NT).cells.map .c]⟩)] 400 ?_ ?_
  · simp only [ncells_mk, scells_mk, WeakF, used_is, sc_any, sc_c, sc_pp, sc_ref, sc_row, sc_agg, sc_fn, ScL, some_imp, List.forall_mem_map, go_sem, Int.reduceBEq, Int.reduceLE, Int.reduceLT, Int.reduceNeg, Nat.reduceAdd, Nat.reduceEqDiff, Nat.reduceLT, Nat.reduceLeDiff, Nat.reduceMul, Nat.reduceSub, reduceCtorEq, ↓reduceIte]
    exact ⟨⟨.same _, .same _, .same _⟩, .same _, .same _, .one (.cons (.same _) (.cons (.same _) (.cons (.nil 1) (.cons (.nil 9) (.cons (.nil 1) (.cons (.same _) (.cons (.same _) (.cons (.same _) (.cons (.same _) (.cons (.nil 1) .nil)))))))))) (by simp [AV.cellish])⟩
  refine walkGF (And.intro @ncells_mk @scells_mk) ?_
  refine walkC (hN) ?_
  refine walkG ?_
  refine VC.meetF (ι := {u : Unit // X = true}) (fun _ => [(2, .ref 0 1 0 0), (3, .ref 8 1 0 0), (5, .ref 48 1 0 0)]) (fun _ => [(0, ⟨false, 24, 2, [s.cells.map .c]⟩), (8, ⟨false, 33, 10, [n.cells.map .c]⟩), (48, ⟨false, 33, 10, [(⟨n.kind, (partN n).name, (partN n).aliases, [], [], false, [], 0, 0, []⟩ : NT).cells.map .c]⟩)]) 4000 ?_ ?_
  · refine VC.cond (by rfl) (by trivial) (fun hc => ?_) (fun hc => ?_)
    · have hpn : (partN n).name = n.name := by simp [partN, hc]
      have hpa : (partN n).aliases = n.aliases := by simp [partN, hc]
      rw [hc, Bool.not_true, Bool.false_or] at hX0
      refine walkGF (And.intro @ncells_mk @scells_mk) ?_
      refine walkC (hF) ?_
      refine walkGF (@ncells_mk) ?_
      refine walkD (hKd) ?_
      refine walkGF (@ncells_mk) ?_
      refine VC.cond (by rfl) (by trivial) (fun hc2 => ?_) (fun hc2 => ?_)
      · have hf : V = false := by
          have : X = false := by
            rw [hX0, allM]
            cases bF with
            | false => rfl
            | true =>
              cases hk0 : kK == 0 with
              | false => simp
              | true =>
                have hk1 : kK = 0 := by simpa using hk0
                have hl : ¬ n.aliases.length ≤ 40 := by
                  simp [hk1] at hc2
                  omega
                simp [hl]
          rw [hV, this]
          simp
        subst hf
        refine walkG ?_
        refine ⟨by first | exact .inr rfl | exact .inl rfl, ?_⟩; rw [Tryz.results97]; simp only [resOk, resV, go_sem, Int.reduceBEq, Int.reduceLE, Int.reduceLT, Int.reduceNeg, Nat.reduceAdd, Nat.reduceEqDiff, Nat.reduceLT, Nat.reduceLeDiff, Nat.reduceMul, Nat.reduceSub, reduceCtorEq, ↓reduceIte]
        exact .c _
      · obtain ⟨hbf, hk0, hl40⟩ : bF = true ∧ kK = 0 ∧ n.aliases.length ≤ 40 := by
          cases bF <;> simp at hc2 ⊢
          omega
        have hXa : X = n.aliases.all fullM := by
          rw [hX0, allM, hbf, hk0]
          simp [hl40]
        refine walkG ?_
        refine VC.loop (ι := {i : Nat // i ≤ n.aliases.length ∧ ∀ (j : Nat) (x : List UInt8), j < i → n.aliases[j]? = some x → fullM x = true}) (fun q => [(2, .ref 0 1 0 0), (3, .ref 8 1 0 0), (5, .ref 48 1 0 0), (6, .c (.v (.int .i64 (q.1 : Int))))])
          (fun _ => [(0, ⟨false, 24, 2, [s.cells.map .c]⟩), (8, ⟨false, 33, 10, [n.cells.map .c]⟩), (48, ⟨false, 33, 10, [(⟨n.kind, n.name, n.aliases, [], [], false, [], 0, 0, []⟩ : NT).cells.map .c]⟩)]) 2000 (fun q => n.aliases.length - q.1) ⟨0, Nat.zero_le _, fun j x h => by omega⟩ ?_ ?_
        · simp only [ncells_mk, scells_mk, Weak, eq_self, used_is, sc_any, sc_c, sc_pp, sc_ref, sc_row, sc_agg, sc_fn, ScL, some_imp, List.forall_mem_map, go_sem, Int.reduceBEq, Int.reduceLE, Int.reduceLT, Int.reduceNeg, Nat.reduceAdd, Nat.reduceEqDiff, Nat.reduceLT, Nat.reduceLeDiff, Nat.reduceMul, Nat.reduceSub, reduceCtorEq, ↓reduceIte]
          done
        rintro ⟨i, hi, ht⟩
        simp only []
        refine walkGF (@ncells_mk) ?_
        refine VC.cond (by rfl) (by trivial) (fun hc3 => ?_) (fun hc3 => ?_)
        · have hlt : i < n.aliases.length := by simp at hc3; omega
          obtain ⟨x, hx⟩ : ∃ x, n.aliases[i]? = some x := ⟨n.aliases[i], List.getElem?_eq_getElem hlt⟩
          have hw : IntKind.i64.wrap ((i : Int) + 1) = (i : Int) + 1 := wrap64_id (by omega) (by omega)
          have hxp : (n.aliases.map sPV)[i]? = some (sPV x) := by rw [List.getElem?_map, hx]; rfl
          have hFx := rfull_told x (by have := ha2 x (List.mem_of_getElem? hx); omega)
          refine walkGF (And.intro @ncells_mk (And.intro hxp @sPV_eq)) ?_
          refine walkC (hFx) ?_
          refine walkG ?_
          refine VC.cond (by rfl) (by trivial) (fun hc4 => ?_) (fun hc4 => ?_)
          · have hf : V = false := by
              have : X = false := by
                rw [hXa, List.all_eq_false]
                exact ⟨x, List.mem_of_getElem? hx, by simpa using hc4⟩
              rw [hV, this]
              simp
            subst hf
            refine walkG ?_
            refine ⟨by first | exact .inr rfl | exact .inl rfl, ?_⟩; rw [Tryz.results97]; simp only [resOk, resV, go_sem, Int.reduceBEq, Int.reduceLE, Int.reduceLT, Int.reduceNeg, Nat.reduceAdd, Nat.reduceEqDiff, Nat.reduceLT, Nat.reduceLeDiff, Nat.reduceMul, Nat.reduceSub, reduceCtorEq, ↓reduceIte]
            exact .c _
          · have hfx : fullM x = true := by simpa using hc4
            refine walkGF (hw) ?_
            refine .next ⟨i + 1, by omega, ?_⟩ ?_ (by simp only []; omega)
            · intro j y hj hy
              by_cases hji : j < i
              · exact ht j y hji hy
              · obtain rfl : j = i := by omega
                rw [hx] at hy
                obtain rfl := Option.some.inj hy
                exact hfx
            simp only [ncells_mk, scells_mk, Weak, eq_self, used_is, sc_any, sc_c, sc_pp, sc_ref, sc_row, sc_agg, sc_fn, ScL, some_imp, List.forall_mem_map, go_sem, Int.reduceBEq, Int.reduceLE, Int.reduceLT, Int.reduceNeg, Nat.reduceAdd, Nat.reduceEqDiff, Nat.reduceLT, Nat.reduceLeDiff, Nat.reduceMul, Nat.reduceSub, reduceCtorEq, ↓reduceIte]
            exact cI (by omega)
        · have hie : i = n.aliases.length := by simp at hc3; omega
          have hXt : X = true := by
            rw [hXa, List.all_eq_true]
            intro y hy
            obtain ⟨j, hj⟩ := List.getElem?_of_mem hy
            exact ht j y (by have := (List.getElem?_eq_some_iff.1 hj).1; omega) hj
          refine walkG ?_
          refine .normal ⟨(), hXt⟩ ?_
          simp only [ncells_mk, scells_mk, hpn, hpa, Weak, eq_self, used_is, sc_any, sc_c, sc_pp, sc_ref, sc_row, sc_agg, sc_fn, ScL, some_imp, List.forall_mem_map, go_sem, Int.reduceBEq, Int.reduceLE, Int.reduceLT, Int.reduceNeg, Nat.reduceAdd, Nat.reduceEqDiff, Nat.reduceLT, Nat.reduceLeDiff, Nat.reduceMul, Nat.reduceSub, reduceCtorEq, ↓reduceIte]
          done
    · have hpn : (partN n).name = [] := by simp [partN, hc]
      have hpa : (partN n).aliases = [] := by simp [partN, hc]
      refine walkG ?_
      refine .normal ⟨(), by rw [hX0, hc]; rfl⟩ ?_
      simp only [ncells_mk, scells_mk, hpn, hpa, Weak, eq_self, used_is, sc_any, sc_c, sc_pp, sc_ref, sc_row, sc_agg, sc_fn, ScL, some_imp, List.forall_mem_map, go_sem, Int.reduceBEq, Int.reduceLE, Int.reduceLT, Int.reduceNeg, Nat.reduceAdd, Nat.reduceEqDiff, Nat.reduceLT, Nat.reduceLeDiff, Nat.reduceMul, Nat.reduceSub, reduceCtorEq, ↓reduceIte]
      done
  rintro ⟨_, hXt⟩
  rw [hXt, Bool.true_and] at hV
  clear hX hX0 hXt hN hF hKd hFF hKK ha2
  (refine VC.seq ?_; (first | refine VC.region (by rfl) (by rfl) ?_ | refine VC.draw mixP (by rfl) (by rfl) ?_); (repeat (refine AO.step fun K hK => ?_; simp only [ncells_mk, go_sem, Int.reduceBEq, Int.reduceLE, Int.reduceLT, Int.reduceNeg, Nat.reduceAdd, Nat.reduceEqDiff, Nat.reduceLT, Nat.reduceLeDiff, Nat.reduceMul, Nat.reduceSub, reduceCtorEq, ↓reduceIte]; (first | refine gsel_skip ?_ | refine gsel_go ?_ | skip); (first | refine hK _ _ _ ?_ | refine ⟨by first | omega | exact ⟨_, rfl, rfl⟩ | exact fun _ => ⟨_, rfl, rfl⟩ | (intro h; simp only [ncells_mk, h, true_and]; omega) | (clear hK; intro h; simp_all <;> omega), hK _ _ _ ?_⟩); clear hK K)); refine AO.nil ?_; first | refine SQ.normal ?_ | refine ⟨okd_of (by kernel_rfl), SQ.normal ?_⟩)
  refine VC.seq ?_
  refine VC.meetF (ι := {ok : Bool // V = (ok && bB)}) (fun q => [(2, .ref 0 1 0 0), (3, .ref 8 1 0 0), (5, .ref 48 1 0 0), (7, .c (.v (.bool q.1)))]) (fun _ => [(0, ⟨false, 24, 2, [s.cells.map .c]⟩), (8, ⟨false, 33, 10, [n.cells.map .c]⟩), (48, ⟨false, 33, 10, [(partN n).cells.map .c]⟩)]) 8000 ?_ ?_
  rotate_left
  · rintro ⟨ok, hok⟩
    simp only []
    simp only [ncells_mk, List.map_cons, List.map_nil] at hSame
    refine walkGF (And.intro @ncells_mk @scells_mk) ?_
    refine walkD (hSame) ?_
    refine walkG ?_
    refine ⟨by first | exact .inr rfl | exact .inl rfl, ?_⟩; rw [Tryz.results97]; simp only [resOk, resV, go_sem, Int.reduceBEq, Int.reduceLE, Int.reduceLT, Int.reduceNeg, Nat.reduceAdd, Nat.reduceEqDiff, Nat.reduceLT, Nat.reduceLeDiff, Nat.reduceMul, Nat.reduceSub, reduceCtorEq, ↓reduceIte]
    rw [hok]
    exact .c _
  by_cases h9 : n.kind = 9
  · rw [h9] at hV
    have e9 : (n.kind == 9) = true := by simpa using h9
    have o1 : decide (n.kind ≥ 1) = true := by rw [h9]; rfl
    have o2 : decide (n.kind ≤ 14) = true := by rw [h9]; rfl
    have hV9 : V = (fieldsM n.fields && bB) := by rw [hV]; simp [Bool.and_comm]
    clear hV
    have pk : (partN n).kind = n.kind := rfl
    have pf : (partN n).fields = n.fields := by simp [partN, h9]
    have ps : (partN n).symbols = [] := by simp [partN, h9]
    have ph : (partN n).has = false := by simp [partN, h9]
    have pd : (partN n).dflt = [] := by simp [partN, h9]
    have pz : (partN n).size = 0 := by simp [partN, h9]
    have pi : (partN n).items = 0 := by simp [partN, h9]
    have pb : (partN n).branches = [] := by simp [partN, h9]
    refine walkBF (And.intro @ncells_mk e9) ?_
    refine VC.nil 8 9 1 (by rfl) (by trivial) (by rfl) ?_
    refine VC.loop (ι := {i : Nat // i ≤ n.fields.length}) (fun q => [(2, .ref 0 1 0 0), (3, .ref 8 1 0 0), (5, .ref 48 1 0 0), (7, .c (.v (.bool ((n.fields.take q.1).all fieldM)))), (8, .row 4152 q.1), (9, .c (.v (.int .i64 (q.1 : Int))))])
      (fun q => [(0, ⟨false, 24, 2, [s.cells.map .c]⟩), (8, ⟨false, 33, 10, [n.cells.map .c]⟩), (48, ⟨false, 33, 10, [(partN n).cells.map .c]⟩), (4152, ⟨true, 9, 1, rA sPV ((n.fields.map (·.name)).take q.1)⟩)]) 5000 (fun q => n.fields.length - q.1) ⟨0, Nat.zero_le _⟩ ?_ ?_
    · simp only [ncells_mk, scells_mk, rA_len, rA_sc, rA_nil, o1, o2, pk, pf, ps, ph, pd, pz, pi, pb, Weak, eq_self, used_is, sc_any, sc_c, sc_pp, sc_ref, sc_row, sc_agg, sc_fn, ScL, some_imp, List.forall_mem_map, go_sem, Int.reduceBEq, Int.reduceLE, Int.reduceLT, Int.reduceNeg, Nat.reduceAdd, Nat.reduceEqDiff, Nat.reduceLT, Nat.reduceLeDiff, Nat.reduceMul, Nat.reduceSub, reduceCtorEq, ↓reduceIte]
      done
    rintro ⟨i, hi⟩
    simp only []
    refine walkGF (And.intro @ncells_mk @scells_mk) ?_
    refine VC.cond (by rfl) (by trivial) (fun hc => ?_) (fun hc => ?_)
    · have hlt : i < n.fields.length := by simp at hc; omega
      obtain ⟨f, hx⟩ : ∃ f, n.fields[i]? = some f := ⟨n.fields[i], List.getElem?_eq_getElem hlt⟩
      have hw : IntKind.i64.wrap ((i : Int) + 1) = (i : Int) + 1 := wrap64_id (by omega) (by omega)
      have hxp : (n.fields.map FT.cells)[i]? = some f.cells := by rw [List.getElem?_map, hx]; rfl
      have hln : (rA sPV ((n.fields.map (·.name)).take i)).length = i := by rw [rA_len]; simp; omega
      have hr : rA sPV ((n.fields.map (·.name)).take i) ++ [[.c (.v (.string (str f.name)))]] = rA sPV ((n.fields.map (·.name)).take (i + 1)) := by
        rw [List.take_add_one, List.getElem?_map, hx]
        exact rA_one sPV _ f.name
      have hl2 : (rA sPV ((n.fields.map (·.name)).take (i + 1))).length = i + 1 := by rw [rA_len]; simp; omega
      obtain ⟨g1, g2, g3, g4⟩ := hf2 f (List.mem_of_getElem? hx)
      have hA := rsimples_told f.aliases (by omega) fun x hx => by have := g3 x hx; omega
      have hR := rright_told f.dflt (sm_le (by omega) _ g4) (hdp f (List.mem_of_getElem? hx))
      have hS := rsame_told _ f.dflt jzero (Nat.le_refl _)
      simp only [JT.av] at hR
      have hM : fieldM f = (allM simpleM f.aliases && ((f.has && jR f.dflt) || (!f.has && jeq f.dflt jzero))) := by
        unfold fieldM
        cases f.has <;> simp
      have hnx : (n.fields.take (i + 1)).all fieldM = ((n.fields.take i).all fieldM && fieldM f) := by
        rw [List.take_add_one, hx, List.all_append]
        simp
      obtain ⟨b0, hb0⟩ : ∃ b, b = (n.fields.take i).all fieldM := ⟨_, rfl⟩
      obtain ⟨b1, hb1⟩ : ∃ b, b = allM simpleM f.aliases := ⟨_, rfl⟩
      obtain ⟨b2, hb2⟩ : ∃ b, b = jR f.dflt := ⟨_, rfl⟩
      obtain ⟨b3, hb3⟩ : ∃ b, b = jeq f.dflt jzero := ⟨_, rfl⟩
      rw [hM, ← hb0, ← hb1, ← hb2, ← hb3] at hnx
      rw [← hb0]
      rw [← hb1] at hA
      rw [← hb2] at hR
      rw [← hb3] at hS
      clear hM hb0 hb1 hb2 hb3
      cases hfh : f.has with
      | true =>
        rw [hfh] at hnx
        replace hnx := Lib.hid hnx
        refine walkGF (And.intro @ncells_mk (And.intro @scells_mk (And.intro hxp (And.intro @fcells_mk (And.intro @len_cells (And.intro @take_cells (And.intro @take_cellsC (And.intro hln (And.intro hr hfh))))))))) ?_
        refine walkD (hA) ?_
        refine walkGF (And.intro @fcells_mk (And.intro @len_cells (And.intro @take_cells (And.intro @take_cellsC hfh)))) ?_
        refine walkDF (@pureL_c) (hR) ?_
        refine walkGF (And.intro hfh hw) ?_
        refine .next ⟨i + 1, by omega⟩ ?_ (by simp only []; omega)
        simp only [ncells_mk, scells_mk, hl2, rA_sc, hnx.out, Bool.and_assoc, Weak, eq_self, used_is, sc_any, sc_c, sc_pp, sc_ref, sc_row, sc_agg, sc_fn, ScL, some_imp, List.forall_mem_map, go_sem, Int.reduceBEq, Int.reduceLE, Int.reduceLT, Int.reduceNeg, Nat.reduceAdd, Nat.reduceEqDiff, Nat.reduceLT, Nat.reduceLeDiff, Nat.reduceMul, Nat.reduceSub, reduceCtorEq, ↓reduceIte]
        exact ⟨cI (by omega), Nat.le_refl _⟩
      | false =>
        rw [hfh] at hnx
        replace hnx := Lib.hid hnx
        refine walkGF (And.intro @ncells_mk (And.intro @scells_mk (And.intro hxp (And.intro @fcells_mk (And.intro @len_cells (And.intro @take_cells (And.intro @take_cellsC (And.intro hln (And.intro hr hfh))))))))) ?_
        refine walkD (hA) ?_
        refine walkGF (And.intro @fcells_mk (And.intro @len_cells (And.intro @take_cells (And.intro @take_cellsC hfh)))) ?_
        (refine AO.step fun K hK => ?_; simp only [go_sem, Int.reduceBEq, Int.reduceLE, Int.reduceLT, Int.reduceNeg, Nat.reduceAdd, Nat.reduceEqDiff, Nat.reduceLT, Nat.reduceLeDiff, Nat.reduceMul, Nat.reduceSub, reduceCtorEq, ↓reduceIte]; (first | refine gsel_go ?_ | skip))
        refine .inr (.inl ⟨.c (.v (.bool b3)), [f.dflt.av, jzero.av], [], fun hg => ⟨hg, by simp [AV.pureL, AV.pureB, JT.av, pureL_c], rfl, fun k x z h5 h6 => ?_, rfl, hS⟩, hK _ _ _ ?_⟩)
        · match k with
          | 0 => obtain rfl := Option.some.inj h5; obtain rfl := Option.some.inj h6; exact .same _
          | 1 => obtain rfl := Option.some.inj h5; obtain rfl := Option.some.inj h6; exact view_jzero _
          | k + 2 => simp at h5
        clear hK K
        refine walkGF (And.intro hfh hw) ?_
        refine .next ⟨i + 1, by omega⟩ ?_ (by simp only []; omega)
        simp only [ncells_mk, scells_mk, hl2, rA_sc, hnx.out, Bool.and_assoc, Weak, eq_self, used_is, sc_any, sc_c, sc_pp, sc_ref, sc_row, sc_agg, sc_fn, ScL, some_imp, List.forall_mem_map, go_sem, Int.reduceBEq, Int.reduceLE, Int.reduceLT, Int.reduceNeg, Nat.reduceAdd, Nat.reduceEqDiff, Nat.reduceLT, Nat.reduceLeDiff, Nat.reduceMul, Nat.reduceSub, reduceCtorEq, ↓reduceIte]
        exact ⟨cI (by omega), Nat.le_refl _⟩
    · have hie : i = n.fields.length := by simp at hc; omega
      have htk : (n.fields.map (·.name)).take i = n.fields.map (·.name) := List.take_of_length_le (by simp; omega)
      have htf : n.fields.take i = n.fields := List.take_of_length_le (by omega)
      rw [htk, htf]
      have hrl : (rA sPV (n.fields.map (·.name))).length = i := by rw [rA_len]; simp; omega
      have hA := rsimples_told (n.fields.map (·.name)) (by simp; omega) fun x hx => by
        obtain ⟨f, hf, rfl⟩ := List.mem_map.1 hx
        have := (hf2 f hf).1
        omega
      have hO := ronce_told (n.fields.map (·.name)) (by simp; omega)
      have hFi : fieldsM n.fields = ((n.fields.all fieldM && allM simpleM (n.fields.map (·.name))) && decide (n.fields.map (·.name)).Nodup) := by
        unfold fieldsM diffM allM
        simp [Bool.and_assoc]
      obtain ⟨b0, hb0⟩ : ∃ b, b = n.fields.all fieldM := ⟨_, rfl⟩
      obtain ⟨b1, hb1⟩ : ∃ b, b = allM simpleM (n.fields.map (·.name)) := ⟨_, rfl⟩
      obtain ⟨b2, hb2⟩ : ∃ b, b = decide (n.fields.map (·.name)).Nodup := ⟨_, rfl⟩
      rw [← hb0, ← hb1, ← hb2] at hFi
      rw [← hb0]
      rw [← hb1] at hA
      rw [← hb2] at hO
      clear hb0 hb1 hb2
      replace hFi := Lib.hid hFi
      refine walkGF (And.intro @ncells_mk (And.intro @scells_mk hrl)) ?_
      (refine AO.step fun K hK => ?_; simp only [go_sem, Int.reduceBEq, Int.reduceLE, Int.reduceLT, Int.reduceNeg, Nat.reduceAdd, Nat.reduceEqDiff, Nat.reduceLT, Nat.reduceLeDiff, Nat.reduceMul, Nat.reduceSub, reduceCtorEq, ↓reduceIte, hrl]; (first | refine gsel_go ?_ | skip))
      refine .inr (.inl ⟨.c (.v (.bool b1)), [.c (.sl 1 ((n.fields.map (·.name)).map sPV))], [4152], fun hg => ⟨hg, by simp [AV.pureL, AV.pureB], rfl, fun k x z h5 h6 => ?_, rfl, hA⟩, hK _ _ _ ?_⟩)
      · match k with
        | 0 =>
          obtain rfl := Option.some.inj h5
          obtain rfl := Option.some.inj h6
          exact View.row (B := ⟨true, 9, 1, rA sPV (n.fields.map fun f : FT => f.name)⟩) (es := (n.fields.map fun f : FT => f.name).map sPV) rfl rfl hrl (rA_pv _ _)
        | k + 1 => simp at h5
      clear hK K
      refine walkGF (hrl) ?_
      (refine AO.step fun K hK => ?_; simp only [go_sem, Int.reduceBEq, Int.reduceLE, Int.reduceLT, Int.reduceNeg, Nat.reduceAdd, Nat.reduceEqDiff, Nat.reduceLT, Nat.reduceLeDiff, Nat.reduceMul, Nat.reduceSub, reduceCtorEq, ↓reduceIte, hrl]; (first | refine gsel_go ?_ | skip))
      refine .inr (.inl ⟨.c (.v (.bool b2)), [.c (.sl 1 ((n.fields.map (·.name)).map sPV))], [4152], fun hg => ⟨hg, by simp [AV.pureL, AV.pureB], rfl, fun k x z h5 h6 => ?_, rfl, hO⟩, hK _ _ _ ?_⟩)
      · match k with
        | 0 =>
          obtain rfl := Option.some.inj h5
          obtain rfl := Option.some.inj h6
          exact View.row (B := ⟨true, 9, 1, rA sPV (n.fields.map fun f : FT => f.name)⟩) (es := (n.fields.map fun f : FT => f.name).map sPV) rfl rfl hrl (rA_pv _ _)
        | k + 1 => simp at h5
      clear hK K
      refine walkG ?_
      refine .normal ⟨(b0 && b1) && b2, by rw [hV9, hFi.out]⟩ ?_
      simp only [ncells_mk, scells_mk, Weak, eq_self, used_is, sc_any, sc_c, sc_pp, sc_ref, sc_row, sc_agg, sc_fn, ScL, some_imp, List.forall_mem_map, go_sem, Int.reduceBEq, Int.reduceLE, Int.reduceLT, Int.reduceNeg, Nat.reduceAdd, Nat.reduceEqDiff, Nat.reduceLT, Nat.reduceLeDiff, Nat.reduceMul, Nat.reduceSub, reduceCtorEq, ↓reduceIte]
      done
  by_cases h10 : n.kind = 10
  · rw [h10] at hV
    have e9 : (n.kind == 9) = false := by simpa using h9
    have e10 : (n.kind == 10) = true := by simpa using h10
    have o1 : decide (n.kind ≥ 1) = true := by rw [h10]; rfl
    have o2 : decide (n.kind ≤ 14) = true := by rw [h10]; rfl
    have hV10 : V = ((((n.has == n.symbols.contains n.dflt) && (n.has || n.dflt.isEmpty)) && (decide (1 ≤ n.symbols.length) && (decide (n.symbols.length ≤ 40) && diffM simpleM n.symbols))) && bB) := by rw [hV]; simp [Bool.and_comm]
    clear hV
    have pk : (partN n).kind = n.kind := rfl
    have pf : (partN n).fields = [] := by simp [partN, h10]
    have ps : (partN n).symbols = n.symbols := by simp [partN, h10]
    have ph : (partN n).has = n.has := by simp [partN, h10]
    have pd : (partN n).dflt = n.dflt := by simp [partN, h10]
    have pz : (partN n).size = 0 := by simp [partN, h10]
    have pi : (partN n).items = 0 := by simp [partN, h10]
    have pb : (partN n).branches = [] := by simp [partN, h10]
    have hE : (⟨#[]⟩ : ByteArray).toList = [] := str_toList []
    refine walkBF (And.intro @ncells_mk (And.intro e9 e10)) ?_
    refine VC.loop (ι := {i : Nat // i ≤ n.symbols.length}) (fun q => [(2, .ref 0 1 0 0), (3, .ref 8 1 0 0), (5, .ref 48 1 0 0), (7, .c (.v (.bool true))), (11, .c (.v (.bool ((n.symbols.take q.1).contains n.dflt)))), (12, .c (.v (.int .i64 (q.1 : Int))))])
      (fun q => [(0, ⟨false, 24, 2, [s.cells.map .c]⟩), (8, ⟨false, 33, 10, [n.cells.map .c]⟩), (48, ⟨false, 33, 10, [(partN n).cells.map .c]⟩)]) 5000 (fun q => n.symbols.length - q.1) ⟨0, Nat.zero_le _⟩ ?_ ?_
    · simp only [ncells_mk, scells_mk, o1, o2, pk, pf, ps, ph, pd, pz, pi, pb, Weak, eq_self, used_is, sc_any, sc_c, sc_pp, sc_ref, sc_row, sc_agg, sc_fn, ScL, some_imp, List.forall_mem_map, go_sem, Int.reduceBEq, Int.reduceLE, Int.reduceLT, Int.reduceNeg, Nat.reduceAdd, Nat.reduceEqDiff, Nat.reduceLT, Nat.reduceLeDiff, Nat.reduceMul, Nat.reduceSub, reduceCtorEq, ↓reduceIte]
      simp
    rintro ⟨i, hi⟩
    simp only []
    refine walkGF (And.intro @ncells_mk @scells_mk) ?_
    refine VC.cond (by rfl) (by trivial) (fun hc => ?_) (fun hc => ?_)
    · have hlt : i < n.symbols.length := by simp at hc; omega
      obtain ⟨x, hx⟩ : ∃ x, n.symbols[i]? = some x := ⟨n.symbols[i], List.getElem?_eq_getElem hlt⟩
      have hw : IntKind.i64.wrap ((i : Int) + 1) = (i : Int) + 1 := wrap64_id (by omega) (by omega)
      have hxp : (n.symbols.map sPV)[i]? = some (sPV x) := by rw [List.getElem?_map, hx]; rfl
      have hnx : (n.symbols.take (i + 1)).contains n.dflt = ((n.symbols.take i).contains n.dflt || (x == n.dflt)) := by
        rw [List.take_add_one, hx, Bool.eq_iff_iff]
        simp
        exact ⟨fun h => h.imp id Eq.symm, fun h => h.imp id Eq.symm⟩
      obtain ⟨b0, hb0⟩ : ∃ b, b = (n.symbols.take i).contains n.dflt := ⟨_, rfl⟩
      rw [← hb0] at hnx ⊢
      clear hb0
      replace hnx := Lib.hid hnx
      refine walkGF (And.intro @ncells_mk (And.intro @scells_mk (And.intro hxp (And.intro @sPV_eq (And.intro @str_toList hw))))) ?_
      refine .next ⟨i + 1, by omega⟩ ?_ (by simp only []; omega)
      simp only [ncells_mk, scells_mk, hnx.out, Weak, eq_self, used_is, sc_any, sc_c, sc_pp, sc_ref, sc_row, sc_agg, sc_fn, ScL, some_imp, List.forall_mem_map, go_sem, Int.reduceBEq, Int.reduceLE, Int.reduceLT, Int.reduceNeg, Nat.reduceAdd, Nat.reduceEqDiff, Nat.reduceLT, Nat.reduceLeDiff, Nat.reduceMul, Nat.reduceSub, reduceCtorEq, ↓reduceIte]
      exact cI (by omega)
    · have hie : i = n.symbols.length := by simp at hc; omega
      rw [show n.symbols.take i = n.symbols by rw [hie, List.take_length]]
      have hA := rsimples_told n.symbols (by omega) fun x hx => by have := hs2 x hx; omega
      have hO := ronce_told n.symbols (by omega)
      have hF : ((((n.has == n.symbols.contains n.dflt) && (n.has || n.dflt.isEmpty)) && (decide (1 ≤ n.symbols.length) && (decide (n.symbols.length ≤ 40) && diffM simpleM n.symbols)))) =
          (((decide ((n.symbols.length : Int) > 0) && allM simpleM n.symbols) && decide n.symbols.Nodup) && ((n.has && n.symbols.contains n.dflt) || (!n.has && (n.dflt == [])))) := by
        have e1 : decide ((n.symbols.length : Int) > 0) = decide (1 ≤ n.symbols.length) := decide_eq_decide.2 (by omega)
        have e2 : n.dflt.isEmpty = (n.dflt == []) := by cases n.dflt <;> rfl
        have e3 : n.symbols.all simpleM = true → (n.dflt == []) = true → n.symbols.contains n.dflt = false := fun ha hd => by
          rw [Bool.eq_false_iff]
          intro hm
          have h1 := List.all_eq_true.1 ha n.dflt (by simpa using hm)
          have h2 : n.dflt = [] := by simpa using hd
          rw [h2] at h1
          exact absurd h1 (by decide)
        rw [e1, e2, diffM, allM]
        generalize decide (1 ≤ n.symbols.length) = x1
        generalize decide (n.symbols.length ≤ 40) = x2
        generalize decide n.symbols.Nodup = x3
        generalize n.symbols.all simpleM = x4 at e3 ⊢
        generalize (n.dflt == []) = x5 at e3 ⊢
        generalize n.symbols.contains n.dflt = x6 at e3 ⊢
        cases x1 <;> cases x2 <;> cases x3 <;> cases x4 <;> cases x5 <;> cases x6 <;> cases n.has <;> simp at e3 ⊢
      obtain ⟨b0, hb0⟩ : ∃ b, b = n.symbols.contains n.dflt := ⟨_, rfl⟩
      obtain ⟨b1, hb1⟩ : ∃ b, b = allM simpleM n.symbols := ⟨_, rfl⟩
      obtain ⟨b2, hb2⟩ : ∃ b, b = decide n.symbols.Nodup := ⟨_, rfl⟩
      rw [hF, ← hb0, ← hb1, ← hb2] at hV10
      rw [← hb0]
      rw [← hb1] at hA
      rw [← hb2] at hO
      clear hb0 hb1 hb2 hF
      cases hnh : n.has with
      | true =>
        rw [hnh] at hV10
        replace hV10 := Lib.hid hV10
        refine walkGF (And.intro @ncells_mk @scells_mk) ?_
        refine walkD (hA) ?_
        refine walkGF (And.intro @ncells_mk @scells_mk) ?_
        refine walkD (hO) ?_
        refine walkGF (And.intro @ncells_mk (And.intro @scells_mk (And.intro @str_toList (And.intro hE hnh)))) ?_
        refine .normal ⟨_, hV10.out⟩ ?_
        simp only [ncells_mk, scells_mk, Weak, eq_self, used_is, sc_any, sc_c, sc_pp, sc_ref, sc_row, sc_agg, sc_fn, ScL, some_imp, List.forall_mem_map, go_sem, Int.reduceBEq, Int.reduceLE, Int.reduceLT, Int.reduceNeg, Nat.reduceAdd, Nat.reduceEqDiff, Nat.reduceLT, Nat.reduceLeDiff, Nat.reduceMul, Nat.reduceSub, reduceCtorEq, ↓reduceIte]
      | false =>
        rw [hnh] at hV10
        replace hV10 := Lib.hid hV10
        refine walkGF (And.intro @ncells_mk @scells_mk) ?_
        refine walkD (hA) ?_
        refine walkGF (And.intro @ncells_mk @scells_mk) ?_
        refine walkD (hO) ?_
        refine walkGF (And.intro @ncells_mk (And.intro @scells_mk (And.intro @str_toList (And.intro hE hnh)))) ?_
        refine .normal ⟨_, hV10.out⟩ ?_
        simp only [ncells_mk, scells_mk, Weak, eq_self, used_is, sc_any, sc_c, sc_pp, sc_ref, sc_row, sc_agg, sc_fn, ScL, some_imp, List.forall_mem_map, go_sem, Int.reduceBEq, Int.reduceLE, Int.reduceLT, Int.reduceNeg, Nat.reduceAdd, Nat.reduceEqDiff, Nat.reduceLT, Nat.reduceLeDiff, Nat.reduceMul, Nat.reduceSub, reduceCtorEq, ↓reduceIte]
  by_cases h1112 : n.kind = 11 ∨ n.kind = 12
  · have hV11 : V = (true && bB) := by
      rw [hV, if_neg h9, if_neg h10, if_neg (by omega), if_neg (by omega)]
      have o1 : decide (1 ≤ n.kind) = true := by simp; omega
      have o2 : decide (n.kind ≤ 14) = true := by simp; omega
      rw [o1, o2]
      simp
    have e9 : (n.kind == 9) = false := by simpa using h9
    have e10 : (n.kind == 10) = false := by simpa using h10
    have o1 : decide (n.kind ≥ 1) = true := by simp; omega
    have o2 : decide (n.kind ≤ 14) = true := by simp; omega
    clear hV
    have hz : n.kind ≠ 13 ∧ n.kind ≠ 14 := by omega
    have pk : (partN n).kind = n.kind := rfl
    have pf : (partN n).fields = [] := by simp [partN, h9, h10, h1112, hz.1, hz.2]
    have ps : (partN n).symbols = [] := by simp [partN, h9, h10, h1112, hz.1, hz.2]
    have ph : (partN n).has = false := by simp [partN, h9, h10, h1112, hz.1, hz.2]
    have pd : (partN n).dflt = [] := by simp [partN, h9, h10, h1112, hz.1, hz.2]
    have pz : (partN n).size = 0 := by simp [partN, h9, h10, h1112, hz.1, hz.2]
    have pi : (partN n).items = n.items := by simp [partN, h9, h10, h1112, hz.1, hz.2]
    have pb : (partN n).branches = [] := by simp [partN, h9, h10, h1112, hz.1, hz.2]
    rcases h1112 with h11 | h11
    · have e11 : (n.kind == 11) = true := by simpa using h11
      refine walkBF (And.intro @ncells_mk (And.intro e9 (And.intro e10 e11))) ?_
      refine .normal ⟨true, hV11⟩ ?_
      simp only [ncells_mk, scells_mk, o1, o2, pk, pf, ps, ph, pd, pz, pi, pb, Weak, eq_self, used_is, sc_any, sc_c, sc_pp, sc_ref, sc_row, sc_agg, sc_fn, ScL, some_imp, List.forall_mem_map, go_sem, Int.reduceBEq, Int.reduceLE, Int.reduceLT, Int.reduceNeg, Nat.reduceAdd, Nat.reduceEqDiff, Nat.reduceLT, Nat.reduceLeDiff, Nat.reduceMul, Nat.reduceSub, reduceCtorEq, ↓reduceIte]
      done
    · have e11 : (n.kind == 11) = false := by simp; omega
      have e12 : (n.kind == 12) = true := by simpa using h11
      refine walkBF (And.intro @ncells_mk (And.intro e9 (And.intro e10 (And.intro e11 e12)))) ?_
      refine .normal ⟨true, hV11⟩ ?_
      simp only [ncells_mk, scells_mk, o1, o2, pk, pf, ps, ph, pd, pz, pi, pb, Weak, eq_self, used_is, sc_any, sc_c, sc_pp, sc_ref, sc_row, sc_agg, sc_fn, ScL, some_imp, List.forall_mem_map, go_sem, Int.reduceBEq, Int.reduceLE, Int.reduceLT, Int.reduceNeg, Nat.reduceAdd, Nat.reduceEqDiff, Nat.reduceLT, Nat.reduceLeDiff, Nat.reduceMul, Nat.reduceSub, reduceCtorEq, ↓reduceIte]
      done
  have e9 : (n.kind == 9) = false := by simpa using h9
  have e10 : (n.kind == 10) = false := by simpa using h10
  have e11 : (n.kind == 11) = false := by simp; omega
  have e12 : (n.kind == 12) = false := by simp; omega
  by_cases h13 : n.kind = 13
  · have hbr := hbr h13
    have o1 : decide (n.kind ≥ 1) = true := by simp; omega
    have o2 : decide (n.kind ≤ 14) = true := by simp; omega
    have e13 : (n.kind == 13) = true := by simpa using h13
    have hV13 : V = (((decide ((n.branches.length : Int) > 0) && decide ((n.branches.length : Int) ≤ 10)) && branchesM s.nodes [] n.branches) && bB) := by
      have x1 : decide ((n.branches.length : Int) > 0) = decide (1 ≤ n.branches.length) := decide_eq_decide.2 (by omega)
      have x2 : decide ((n.branches.length : Int) ≤ 10) = decide (n.branches.length ≤ 10) := decide_eq_decide.2 (by omega)
      rw [hV, if_neg h9, if_neg h10, if_neg (by omega), if_pos h13, h13, unionM, x1, x2]
      simp [Bool.and_comm, Bool.and_assoc]
    clear hV
    have pk : (partN n).kind = n.kind := rfl
    have pf : (partN n).fields = [] := by simp [partN, h13]
    have ps : (partN n).symbols = [] := by simp [partN, h13]
    have ph : (partN n).has = false := by simp [partN, h13]
    have pd : (partN n).dflt = [] := by simp [partN, h13]
    have pz : (partN n).size = 0 := by simp [partN, h13]
    have pi : (partN n).items = 0 := by simp [partN, h13]
    have pb : (partN n).branches = n.branches := by simp [partN, h13]
    obtain ⟨L, hL⟩ : ∃ L, L = (decide ((n.branches.length : Int) > 0) && decide ((n.branches.length : Int) ≤ 10)) := ⟨_, rfl⟩
    rw [← hL] at hV13
    refine walkBF (And.intro @ncells_mk (And.intro e9 (And.intro e10 (And.intro e11 (And.intro e12 e13))))) ?_
    refine VC.loop (ι := {i : Nat // i ≤ n.branches.length}) (fun q => [(2, .ref 0 1 0 0), (3, .ref 8 1 0 0), (5, .ref 48 1 0 0), (7, .c (.v (.bool (L && branchesM s.nodes [] (n.branches.take q.1))))), (13, .c (.v (.int .i64 (q.1 : Int))))])
      (fun q => [(0, ⟨false, 24, 2, [s.cells.map .c]⟩), (8, ⟨false, 33, 10, [n.cells.map .c]⟩), (48, ⟨false, 33, 10, [(partN n).cells.map .c]⟩)]) 10000 (fun q => n.branches.length - q.1) ⟨0, Nat.zero_le _⟩ ?_ ?_
    · simp only [ncells_mk, scells_mk, o1, o2, hL, pk, pf, ps, ph, pd, pz, pi, pb, Weak, eq_self, used_is, sc_any, sc_c, sc_pp, sc_ref, sc_row, sc_agg, sc_fn, ScL, some_imp, List.forall_mem_map, go_sem, Int.reduceBEq, Int.reduceLE, Int.reduceLT, Int.reduceNeg, Nat.reduceAdd, Nat.reduceEqDiff, Nat.reduceLT, Nat.reduceLeDiff, Nat.reduceMul, Nat.reduceSub, reduceCtorEq, ↓reduceIte]
      simp [branchesM]
    rintro ⟨i, hi⟩
    simp only []
    refine walkGF (And.intro @ncells_mk @scells_mk) ?_
    refine VC.cond (by rfl) (by trivial) (fun hc => ?_) (fun hc => ?_)
    · have hlt : i < n.branches.length := by simp at hc; omega
      obtain ⟨x, hx⟩ : ∃ x, n.branches[i]? = some x := ⟨n.branches[i], List.getElem?_eq_getElem hlt⟩
      obtain ⟨y0, y1⟩ := hbr x (List.mem_of_getElem? hx)
      obtain ⟨p, rfl⟩ : ∃ p : Nat, x = (p : Int) := ⟨x.toNat, by omega⟩
      obtain ⟨m, hm⟩ : ∃ m, s.nodes[p]? = some m := ⟨s.nodes[p]'(by omega), List.getElem?_eq_getElem (by omega)⟩
      have hmp : (s.nodes.map NT.cells)[p]? = some m.cells := by rw [List.getElem?_map, hm]; rfl
      have hw : IntKind.i64.wrap ((i : Int) + 1) = (i : Int) + 1 := wrap64_id (by omega) (by omega)
      have hxp : (n.branches.map iPV)[i]? = some (iPV (p : Int)) := by rw [List.getElem?_map, hx]; rfl
      have hnx : branchesM s.nodes [] (n.branches.take (i + 1)) = (branchesM s.nodes [] (n.branches.take i) && branchM s.nodes (n.branches.take i) (p : Int)) := by
        rw [List.take_add_one, hx, Option.toList_some, branchesM_snoc, List.nil_append]
      rw [branchM, Int.toNat_natCast, kindAt_of hm] at hnx
      obtain ⟨b0, hb0⟩ : ∃ b, b = branchesM s.nodes [] (n.branches.take i) := ⟨_, rfl⟩
      rw [← hb0] at hnx ⊢
      clear hb0
      replace hnx := Lib.hid hnx
      have hNm := rnamed10_told m.kind
      obtain ⟨bn, hbn⟩ : ∃ b, b = namedK m.kind := ⟨_, rfl⟩
      rw [← hbn] at hNm
      refine walkGF (And.intro @ncells_mk (And.intro @scells_mk (And.intro hxp (And.intro @iPV_eq hmp)))) ?_
      refine VC.loop (ι := {k : Nat // k ≤ i}) (fun q => [(2, .ref 0 1 0 0), (3, .ref 8 1 0 0), (5, .ref 48 1 0 0), (7, .c (.v (.bool (((L && b0) && (m.kind != 13)) && !(n.branches.take q.1).any fun z => z == (p : Int) || (!bn && kindAt s.nodes z.toNat == m.kind))))), (13, .c (.v (.int .i64 (i : Int)))), (14, .ref 10112 1 0 0), (15, .c (.v (.int .i64 (q.1 : Int))))])
        (fun q => [(0, ⟨false, 24, 2, [s.cells.map .c]⟩), (8, ⟨false, 33, 10, [n.cells.map .c]⟩), (48, ⟨false, 33, 10, [(partN n).cells.map .c]⟩), (10112, ⟨false, 33, 10, [m.cells.map .c]⟩)]) 20000 (fun q => i - q.1) ⟨0, Nat.zero_le _⟩ ?_ ?_
      · simp only [ncells_mk, scells_mk, Weak, eq_self, used_is, sc_any, sc_c, sc_pp, sc_ref, sc_row, sc_agg, sc_fn, ScL, some_imp, List.forall_mem_map, go_sem, Int.reduceBEq, Int.reduceLE, Int.reduceLT, Int.reduceNeg, Nat.reduceAdd, Nat.reduceEqDiff, Nat.reduceLT, Nat.reduceLeDiff, Nat.reduceMul, Nat.reduceSub, reduceCtorEq, ↓reduceIte]
        simp
      rintro ⟨k, hk⟩
      simp only []
      refine walkGF (And.intro @ncells_mk @scells_mk) ?_
      refine VC.cond (by rfl) (by trivial) (fun hc2 => ?_) (fun hc2 => ?_)
      · have hki : k < i := by simp at hc2; omega
        obtain ⟨y, hy⟩ : ∃ y, n.branches[k]? = some y := ⟨n.branches[k]'(by omega), List.getElem?_eq_getElem (by omega)⟩
        obtain ⟨z0, z1⟩ := hbr y (List.mem_of_getElem? hy)
        obtain ⟨r, rfl⟩ : ∃ r : Nat, y = (r : Int) := ⟨y.toNat, by omega⟩
        obtain ⟨w, hwn⟩ : ∃ w, s.nodes[r]? = some w := ⟨s.nodes[r]'(by omega), List.getElem?_eq_getElem (by omega)⟩
        have hwp : (s.nodes.map NT.cells)[r]? = some w.cells := by rw [List.getElem?_map, hwn]; rfl
        have hwk : IntKind.i64.wrap ((k : Int) + 1) = (k : Int) + 1 := wrap64_id (by omega) (by omega)
        have hyp : (n.branches.map iPV)[k]? = some (iPV (r : Int)) := by rw [List.getElem?_map, hy]; rfl
        have hnk : (!(n.branches.take (k + 1)).any fun z => z == (p : Int) || (!bn && kindAt s.nodes z.toNat == m.kind)) = ((!(n.branches.take k).any fun z => z == (p : Int) || (!bn && kindAt s.nodes z.toNat == m.kind)) && (((p : Int) != (r : Int)) && ((m.kind != w.kind) || bn))) := by
          rw [List.take_add_one, hy, List.any_append]
          simp only [Option.toList_some, List.any_cons, List.any_nil, Bool.or_false, Int.toNat_natCast, kindAt_of hwn, Bool.not_or, Bool.not_and, Bool.not_not]
          congr 1
          congr 1
          · rw [bne_comm]; rfl
          · rw [Bool.or_comm, bne_comm]; rfl
        obtain ⟨b1, hb1⟩ : ∃ b, b = !(n.branches.take k).any fun z => z == (p : Int) || (!bn && kindAt s.nodes z.toNat == m.kind) := ⟨_, rfl⟩
        rw [← hb1] at hnk ⊢
        clear hb1
        replace hnk := Lib.hid hnk
        refine walkGF (And.intro @ncells_mk (And.intro @scells_mk (And.intro hxp (And.intro hyp (And.intro @iPV_eq (And.intro hmp hwp)))))) ?_
        refine walkD (hNm) ?_
        refine walkGF (hwk) ?_
        refine .next ⟨k + 1, by omega⟩ ?_ (by simp only []; omega)
        simp only [ncells_mk, scells_mk, hnk.out, Bool.and_assoc, Weak, eq_self, used_is, sc_any, sc_c, sc_pp, sc_ref, sc_row, sc_agg, sc_fn, ScL, some_imp, List.forall_mem_map, go_sem, Int.reduceBEq, Int.reduceLE, Int.reduceLT, Int.reduceNeg, Nat.reduceAdd, Nat.reduceEqDiff, Nat.reduceLT, Nat.reduceLeDiff, Nat.reduceMul, Nat.reduceSub, reduceCtorEq, ↓reduceIte]
        exact cI (by omega)
      · have hke : k = i := by simp at hc2; omega
        subst hke
        refine walkGF (hw) ?_
        refine .next ⟨k + 1, by omega⟩ ?_ (by simp only []; omega)
        simp only [ncells_mk, scells_mk, hnx.out, hbn, Bool.and_assoc, Weak, eq_self, used_is, sc_any, sc_c, sc_pp, sc_ref, sc_row, sc_agg, sc_fn, ScL, some_imp, List.forall_mem_map, go_sem, Int.reduceBEq, Int.reduceLE, Int.reduceLT, Int.reduceNeg, Nat.reduceAdd, Nat.reduceEqDiff, Nat.reduceLT, Nat.reduceLeDiff, Nat.reduceMul, Nat.reduceSub, reduceCtorEq, ↓reduceIte]
        exact cI (by omega)
    · have hie : i = n.branches.length := by simp at hc; omega
      rw [show n.branches.take i = n.branches by rw [hie, List.take_length]]
      refine walkG ?_
      refine .normal ⟨_, hV13⟩ ?_
      simp only [ncells_mk, scells_mk, Weak, eq_self, used_is, sc_any, sc_c, sc_pp, sc_ref, sc_row, sc_agg, sc_fn, ScL, some_imp, List.forall_mem_map, go_sem, Int.reduceBEq, Int.reduceLE, Int.reduceLT, Int.reduceNeg, Nat.reduceAdd, Nat.reduceEqDiff, Nat.reduceLT, Nat.reduceLeDiff, Nat.reduceMul, Nat.reduceSub, reduceCtorEq, ↓reduceIte]
  have e13 : (n.kind == 13) = false := by simpa using h13
  by_cases h14 : n.kind = 14
  · have o1 : decide (n.kind ≥ 1) = true := by simp; omega
    have o2 : decide (n.kind ≤ 14) = true := by simp; omega
    have hV14 : V = ((decide (n.size ≥ 0) && decide (n.size ≤ 1000)) && bB) := by
      rw [hV, if_neg h9, if_neg h10, if_pos h14, h14]
      simp [Bool.and_comm]
    clear hV
    have pk : (partN n).kind = n.kind := rfl
    have pf : (partN n).fields = [] := by simp [partN, h14]
    have ps : (partN n).symbols = [] := by simp [partN, h14]
    have ph : (partN n).has = false := by simp [partN, h14]
    have pd : (partN n).dflt = [] := by simp [partN, h14]
    have pz : (partN n).size = n.size := by simp [partN, h14]
    have pi : (partN n).items = 0 := by simp [partN, h14]
    have pb : (partN n).branches = [] := by simp [partN, h14]
    have e14 : (n.kind == 14) = true := by simpa using h14
    refine walkBF (And.intro @ncells_mk (And.intro e9 (And.intro e10 (And.intro e11 (And.intro e12 (And.intro e13 e14)))))) ?_
    refine .normal ⟨_, hV14⟩ ?_
    simp only [ncells_mk, scells_mk, o1, o2, pk, pf, ps, ph, pd, pz, pi, pb, Weak, eq_self, used_is, sc_any, sc_c, sc_pp, sc_ref, sc_row, sc_agg, sc_fn, ScL, some_imp, List.forall_mem_map, go_sem, Int.reduceBEq, Int.reduceLE, Int.reduceLT, Int.reduceNeg, Nat.reduceAdd, Nat.reduceEqDiff, Nat.reduceLT, Nat.reduceLeDiff, Nat.reduceMul, Nat.reduceSub, reduceCtorEq, ↓reduceIte]
    done
  · have hV0 : V = ((decide (n.kind ≥ 1) && decide (n.kind ≤ 14)) && bB) := by
      rw [hV, if_neg h9, if_neg h10, if_neg h14, if_neg h13]
      simp [Bool.and_assoc]
    clear hV
    have pk : (partN n).kind = n.kind := rfl
    have pf : (partN n).fields = [] := by simp [partN, h9, h10, h13, h14, h1112]
    have ps : (partN n).symbols = [] := by simp [partN, h9, h10, h13, h14, h1112]
    have ph : (partN n).has = false := by simp [partN, h9, h10, h13, h14, h1112]
    have pd : (partN n).dflt = [] := by simp [partN, h9, h10, h13, h14, h1112]
    have pz : (partN n).size = 0 := by simp [partN, h9, h10, h13, h14, h1112]
    have pi : (partN n).items = 0 := by simp [partN, h9, h10, h13, h14, h1112]
    have pb : (partN n).branches = [] := by simp [partN, h9, h10, h13, h14, h1112]
    have e14 : (n.kind == 14) = false := by simpa using h14
    refine walkBF (And.intro @ncells_mk (And.intro e9 (And.intro e10 (And.intro e11 (And.intro e12 (And.intro e13 e14)))))) ?_
    refine .normal ⟨_, hV0⟩ ?_
    simp only [ncells_mk, scells_mk, pk, pf, ps, ph, pd, pz, pi, pb, Weak, eq_self, used_is, sc_any, sc_c, sc_pp, sc_ref, sc_row, sc_agg, sc_fn, ScL, some_imp, List.forall_mem_map, go_sem, Int.reduceBEq, Int.reduceLE, Int.reduceLT, Int.reduceNeg, Nat.reduceAdd, Nat.reduceEqDiff, Nat.reduceLT, Nat.reduceLeDiff, Nat.reduceMul, Nat.reduceSub, reduceCtorEq, ↓reduceIte]
    done

theorem take_step {ns : List NT} {l : List Int} {i : Nat} (h : i < ns.length) : (wstep ns l).take (i + 1) = (wstep ns l).take i ++ [foldW (wAt l) (fieldsAt ns i) 1] := by
  rw [List.take_add_one, wstep_at h]
  rfl
theorem fieldsAt_of {ns : List NT} {i : Nat} {n : NT} (h : ns[i]? = some n) : fieldsAt ns i = if n.kind = 9 then n.fields else [] := by rw [fieldsAt, h]
noncomputable def difT (a b : List Int) (i : Nat) : Bool := @decide (a.take i ≠ b.take i) (Classical.propDecidable _)
theorem difT_zero (a b : List Int) : difT a b 0 = false := by simp [difT]
theorem difT_next {a b : List Int} {i : Nat} {x y : Int} (hx : a[i]? = some x) (hy : b[i]? = some y) : difT a b (i + 1) = (difT a b i || (x != y)) := by
  have hla := (List.getElem?_eq_some_iff.1 hx).1
  have hlb := (List.getElem?_eq_some_iff.1 hy).1
  rw [Bool.eq_iff_iff]
  simp only [difT, decide_eq_true_eq, Bool.or_eq_true, bne_iff_ne, ne_eq]
  rw [List.take_add_one, List.take_add_one, hx, hy, Option.toList_some, Option.toList_some]
  constructor
  · intro h
    by_cases h1 : a.take i = b.take i
    · by_cases h2 : x = y
      · exact absurd (by rw [h1, h2]) h
      · exact .inr h2
    · exact .inl h1
  · rintro h e
    have := List.append_inj e (by simp; omega)
    rcases h with h | h
    · exact h this.1
    · exact h (List.cons.inj this.2).1
theorem difT_end {a b : List Int} {i : Nat} (ha : a.length = i) (hb : b.length = i) : difT a b i = false ↔ a = b := by
  simp only [difT, decide_eq_false_iff_not, ne_eq, Classical.not_not]
  rw [List.take_of_length_le (by omega), List.take_of_length_le (by omega)]
set_option maxRecDepth 100000 in
set_option maxHeartbeats 3200000 in
theorem rweights_told (s : ST) (hl : s.nodes.length ≤ 1000000) (hs : ∀ n ∈ s.nodes, n.sm 1000000) (hr : ∀ p, ∀ x ∈ fieldsAt s.nodes p, 0 ≤ x.type ∧ x.type < (s.nodes.length : Int)) (l : List Int) (hG : ∀ l', WOk s.nodes l' → wstep s.nodes l' = l' → l' = l) :
    Told Tryz.prog 96 [s.av] (.c (.sl 1 (l.map iPV))) := by
  rw [ST.av_eq, scells_mk]
  refine VC.told ent_96 Tryz.func96 rfl Tryz.ntmps96 (by simp) (by first | rfl | simp [AV.pureB, AV.pureL, pureL_c, pures]) (by first | rfl | simp [AV.pureB, AV.pureL, pureL_c, pures]) fun hb => ?_
  clear hb
  refine walkG ?_
  refine VC.nil 3 3 1 (by rfl) (by trivial) (by rfl) ?_
  refine VC.loop (ι := {i : Nat // i ≤ s.nodes.length}) (fun q => [(1, .ref 0 1 0 0), (3, .row 32 q.1), (4, .c (.v (.int .i64 (q.1 : Int))))]) (fun q => [(0, ⟨false, 24, 2, [s.cells.map .c]⟩), (32, ⟨true, 3, 1, rA iPV (List.replicate q.1 1)⟩)]) 800 (fun q => s.nodes.length - q.1)
    ⟨0, Nat.zero_le _⟩ ?_ ?_
  · simp only [rA_len, rA_sc, rA_nil, scells_mk, Weak, eq_self, used_is, sc_any, sc_c, sc_pp, sc_ref, sc_row, sc_agg, sc_fn, ScL, some_imp, List.forall_mem_map, go_sem, Int.reduceBEq, Int.reduceLE, Int.reduceLT, Int.reduceNeg, Nat.reduceAdd, Nat.reduceEqDiff, Nat.reduceLT, Nat.reduceLeDiff, Nat.reduceMul, Nat.reduceSub, reduceCtorEq, ↓reduceIte]
    try simp [rA_nil]
  rintro ⟨i, hi⟩
  simp only []
  refine walkGF (@scells_mk) ?_
  refine VC.cond (by rfl) (by trivial) (fun hc => ?_) (fun hc => ?_)
  · have hlt : i < s.nodes.length := by simp at hc; omega
    have hw : IntKind.i64.wrap ((i : Int) + 1) = (i : Int) + 1 := wrap64_id (by omega) (by omega)
    have hln : (rA iPV (List.replicate i 1)).length = i := by rw [rA_len]; simp
    have hap : rA iPV (List.replicate i 1) ++ [[.c (.v (.int .i64 1))]] = rA iPV (List.replicate (i + 1) 1) := by
      rw [List.replicate_succ']
      exact rA_one iPV _ 1
    have hl2 : (rA iPV (List.replicate (i + 1) 1)).length = i + 1 := by rw [rA_len]; simp
    refine walkGF (And.intro hln (And.intro hap hw)) ?_
    refine .next ⟨i + 1, by omega⟩ ?_ (by simp only []; omega)
    simp only [hl2, rA_sc, scells_mk, Weak, eq_self, used_is, sc_any, sc_c, sc_pp, sc_ref, sc_row, sc_agg, sc_fn, ScL, some_imp, List.forall_mem_map, go_sem, Int.reduceBEq, Int.reduceLE, Int.reduceLT, Int.reduceNeg, Nat.reduceAdd, Nat.reduceEqDiff, Nat.reduceLT, Nat.reduceLeDiff, Nat.reduceMul, Nat.reduceSub, reduceCtorEq, ↓reduceIte]
    exact ⟨cI (by omega), by rw [rA_len]; simp⟩
  have hie : i = s.nodes.length := by simp at hc; omega
  subst hie
  have hln : (rA iPV (List.replicate s.nodes.length 1)).length = s.nodes.length := by rw [rA_len]; simp
  refine walkG ?_
  refine VC.frz [32] [(1, .ref 0 1 0 0), (3, .c (.sl 1 ((List.replicate s.nodes.length 1).map iPV))), (5, .c (.v (.bool true)))] [(0, ⟨false, 24, 2, [s.cells.map .c]⟩)] 1600 ?_ ?_
  · simp only [rA_sc, rA_len, scells_mk, WeakF, used_is, sc_any, sc_c, sc_pp, sc_ref, sc_row, sc_agg, sc_fn, ScL, some_imp, List.forall_mem_map, go_sem, Int.reduceBEq, Int.reduceLE, Int.reduceLT, Int.reduceNeg, Nat.reduceAdd, Nat.reduceEqDiff, Nat.reduceLT, Nat.reduceLeDiff, Nat.reduceMul, Nat.reduceSub, reduceCtorEq, ↓reduceIte]
    exact ⟨⟨.same _, .row (B := ⟨true, 3, 1, rA iPV (List.replicate s.nodes.length 1)⟩) (es := (List.replicate s.nodes.length 1).map iPV) (by simp) rfl rfl hln (rA_pv _ _), .same _⟩, .same _⟩
  refine VC.loop (ι := {x : List Int × Bool // WOk s.nodes x.1 ∧ (x.2 = false → wstep s.nodes x.1 = x.1)}) (fun q => [(1, .ref 0 1 0 0), (3, .c (.sl 1 (q.1.1.map iPV))), (5, .c (.v (.bool q.1.2)))]) (fun q => [(0, ⟨false, 24, 2, [s.cells.map .c]⟩)]) 3200 (fun q => wlack q.1.1 * 2 + q.1.2.toNat)
    ⟨(List.replicate s.nodes.length 1, true), wok_one s.nodes, by simp⟩ ?_ ?_
  · simp only [scells_mk, Weak, eq_self, used_is, sc_any, sc_c, sc_pp, sc_ref, sc_row, sc_agg, sc_fn, ScL, some_imp, List.forall_mem_map, go_sem, Int.reduceBEq, Int.reduceLE, Int.reduceLT, Int.reduceNeg, Nat.reduceAdd, Nat.reduceEqDiff, Nat.reduceLT, Nat.reduceLeDiff, Nat.reduceMul, Nat.reduceSub, reduceCtorEq, ↓reduceIte]
  rintro ⟨⟨w, more⟩, hwk, hmore⟩
  simp only [] at hwk hmore ⊢
  refine walkG ?_
  refine VC.cond (by rfl) (by trivial) (fun hm => ?_) (fun hm => ?_)
  rotate_left
  · obtain rfl := hG w hwk (hmore hm)
    refine walkG ?_
    refine ⟨by first | exact .inr rfl | exact .inl rfl, ?_⟩; rw [Tryz.results96]; simp only [resOk, resV, go_sem, Int.reduceBEq, Int.reduceLE, Int.reduceLT, Int.reduceNeg, Nat.reduceAdd, Nat.reduceEqDiff, Nat.reduceLT, Nat.reduceLeDiff, Nat.reduceMul, Nat.reduceSub, reduceCtorEq, ↓reduceIte]
    exact .c _
  subst hm
  obtain ⟨hwl, hwr, hwm⟩ := hwk
  have hwl2 : (w.map iPV).length = s.nodes.length := by simp [hwl]
  refine walkG ?_
  refine VC.nil 6 3 1 (by rfl) (by trivial) (by rfl) ?_
  refine VC.loop (ι := {i : Nat // i ≤ s.nodes.length}) (fun q => [(1, .ref 0 1 0 0), (3, .c (.sl 1 (w.map iPV))), (5, .c (.v (.bool (difT (wstep s.nodes w) w q.1)))), (6, .row 3232 q.1), (7, .c (.v (.int .i64 (q.1 : Int))))]) (fun q => [(0, ⟨false, 24, 2, [s.cells.map .c]⟩), (3232, ⟨true, 3, 1, rA iPV ((wstep s.nodes w).take q.1)⟩)]) 4800 (fun q => s.nodes.length - q.1)
    ⟨0, Nat.zero_le _⟩ ?_ ?_
  · simp only [rA_len, rA_sc, rA_nil, scells_mk, difT_zero, Weak, eq_self, used_is, sc_any, sc_c, sc_pp, sc_ref, sc_row, sc_agg, sc_fn, ScL, some_imp, List.forall_mem_map, go_sem, Int.reduceBEq, Int.reduceLE, Int.reduceLT, Int.reduceNeg, Nat.reduceAdd, Nat.reduceEqDiff, Nat.reduceLT, Nat.reduceLeDiff, Nat.reduceMul, Nat.reduceSub, reduceCtorEq, ↓reduceIte]
    done
  rintro ⟨i, hi⟩
  simp only []
  refine walkGF (@scells_mk) ?_
  refine VC.cond (by rfl) (by trivial) (fun hc => ?_) (fun hc => ?_)
  · have hlt : i < s.nodes.length := by simp at hc; omega
    obtain ⟨n, hn⟩ : ∃ n, s.nodes[i]? = some n := ⟨s.nodes[i], List.getElem?_eq_getElem hlt⟩
    have hnp : (s.nodes.map NT.cells)[i]? = some n.cells := by rw [List.getElem?_map, hn]; rfl
    have hw : IntKind.i64.wrap ((i : Int) + 1) = (i : Int) + 1 := wrap64_id (by omega) (by omega)
    have hfl := (hs n (List.mem_of_getElem? hn)).2.2.2.2.2.1
    obtain ⟨v, hv⟩ : ∃ v, w[i]? = some v := ⟨w[i]'(by omega), List.getElem?_eq_getElem (by omega)⟩
    have hvp : (w.map iPV)[i]? = some (iPV v) := by rw [List.getElem?_map, hv]; rfl
    have hwa := fun q => wAt_range hwr q
    have hsl : (wstep s.nodes w).length = s.nodes.length := by simp [wstep]
    have hln2 : (rA iPV ((wstep s.nodes w).take i)).length = i := by rw [rA_len]; simp; omega
    have hl2 : (rA iPV ((wstep s.nodes w).take (i + 1))).length = i + 1 := by rw [rA_len]; simp; omega
    have hst := take_step (l := w) hlt
    have hat := wstep_at (l := w) hlt
    have hdn := difT_next hat hv
    obtain ⟨T, hT⟩ : ∃ T, T = foldW (wAt w) (fieldsAt s.nodes i) 1 := ⟨_, rfl⟩
    rw [← hT] at hst hat hdn
    have hap : rA iPV ((wstep s.nodes w).take i) ++ [[.c (.v (.int .i64 T))]] = rA iPV ((wstep s.nodes w).take (i + 1)) := by
      rw [hst]
      exact rA_one iPV _ T
    have hfa := fieldsAt_of hn
    replace hdn := Lib.hid hdn
    have hlw : ∀ (F : List FT) (a : Int), a ≤ 1001 → foldW (wAt w) F a ≤ 1001 := fun F a h => foldW_le F a h
    have hgw : ∀ (F : List FT) (a : Int), a ≤ 1001 → a ≤ foldW (wAt w) F a := fun F a h => foldW_ge (fun q => (hwa q).1) F a h
    refine walkG ?_
    refine VC.loop (ι := {x : Nat × Int // x.1 ≤ n.fields.length ∧ 1 ≤ x.2 ∧ x.2 ≤ 2001 ∧ foldW (wAt w) ((if n.kind = 9 then n.fields else []).drop x.1) (min x.2 1001) = T}) (fun q => [(1, .ref 0 1 0 0), (3, .c (.sl 1 (w.map iPV))), (5, .c (.v (.bool (difT (wstep s.nodes w) w i)))), (6, .row 3232 i), (7, .c (.v (.int .i64 (i : Int)))), (8, .c (.v (.int .i64 q.1.2))), (9, .c (.v (.int .i64 (q.1.1 : Int))))])
      (fun q => [(0, ⟨false, 24, 2, [s.cells.map .c]⟩), (3232, ⟨true, 3, 1, rA iPV ((wstep s.nodes w).take i)⟩)]) 6400 (fun q => n.fields.length - q.1.1) ⟨(0, 1), Nat.zero_le _, by simp only []; omega, by simp only []; omega, by rw [hT, hfa]; rfl⟩ ?_ ?_
    · simp only [hln2, rA_sc, scells_mk, Weak, eq_self, used_is, sc_any, sc_c, sc_pp, sc_ref, sc_row, sc_agg, sc_fn, ScL, some_imp, List.forall_mem_map, go_sem, Int.reduceBEq, Int.reduceLE, Int.reduceLT, Int.reduceNeg, Nat.reduceAdd, Nat.reduceEqDiff, Nat.reduceLT, Nat.reduceLeDiff, Nat.reduceMul, Nat.reduceSub, reduceCtorEq, ↓reduceIte]
      exact Nat.le_refl _
    rintro ⟨⟨k, m⟩, hk, hm1, hm2, hfo⟩
    simp only [] at hk hm1 hm2 hfo ⊢
    refine walkGF (And.intro @scells_mk (And.intro hnp @ncells_mk)) ?_
    refine VC.cond (by rfl) (by trivial) (fun hc2 => ?_) (fun hc2 => ?_)
    · obtain ⟨hkl, h9, hmk⟩ : k < n.fields.length ∧ n.kind = 9 ∧ m ≤ 1000 := by
        simp at hc2
        omega
      obtain ⟨f, hf⟩ : ∃ f, n.fields[k]? = some f := ⟨n.fields[k], List.getElem?_eq_getElem hkl⟩
      have hfp : (n.fields.map FT.cells)[k]? = some f.cells := by rw [List.getElem?_map, hf]; rfl
      have hwk : IntKind.i64.wrap ((k : Int) + 1) = (k : Int) + 1 := wrap64_id (by omega) (by omega)
      obtain ⟨t0, t1⟩ := hr i f (by rw [hfa, if_pos h9]; exact List.mem_of_getElem? hf)
      obtain ⟨q, hq⟩ : ∃ q : Nat, f.type = (q : Int) := ⟨f.type.toNat, by omega⟩
      obtain ⟨u, hu⟩ : ∃ u, w[q]? = some u := ⟨w[q]'(by omega), List.getElem?_eq_getElem (by omega)⟩
      have hup : (w.map iPV)[q]? = some (iPV u) := by rw [List.getElem?_map, hu]; rfl
      have hur := hwr u (List.mem_of_getElem? hu)
      have hwu : IntKind.i64.wrap (m + u) = m + u := wrap64_id (by omega) (by omega)
      rw [if_pos h9, drop_at' hf, foldW, hq, Int.toNat_natCast, wAt_of hu] at hfo
      refine walkGF (And.intro @scells_mk (And.intro hnp (And.intro @ncells_mk (And.intro hfp (And.intro @fcells_mk (And.intro hq (And.intro hup (And.intro @iPV_eq (And.intro hwl2 (And.intro hwl (And.intro hwu hwk))))))))))) ?_
      refine .next ⟨(k + 1, m + u), by simp only []; omega, by simp only []; omega, by simp only []; omega, by
        simp only []
        rw [if_pos h9, ← hfo]
        congr 1
        omega⟩ ?_ (by simp only []; omega)
      simp only [hln2, rA_sc, scells_mk, Weak, eq_self, used_is, sc_any, sc_c, sc_pp, sc_ref, sc_row, sc_agg, sc_fn, ScL, some_imp, List.forall_mem_map, go_sem, Int.reduceBEq, Int.reduceLE, Int.reduceLT, Int.reduceNeg, Nat.reduceAdd, Nat.reduceEqDiff, Nat.reduceLT, Nat.reduceLeDiff, Nat.reduceMul, Nat.reduceSub, reduceCtorEq, ↓reduceIte]
      exact ⟨cI (by omega), Nat.le_refl _⟩
    · have hend : min m 1001 = T := by
        rw [← hfo]
        by_cases h9 : n.kind = 9
        · rw [if_pos h9]
          by_cases hkl : k < n.fields.length
          · have hmb : 1000 < m := by
              simp [h9] at hc2
              omega
            have a := hlw (n.fields.drop k) (min m 1001) (by omega)
            have b := hgw (n.fields.drop k) (min m 1001) (by omega)
            omega
          · rw [List.drop_of_length_le (by omega), foldW]
        · rw [if_neg h9, List.drop_nil, foldW]
      refine walkG ?_
      refine VC.cond (by rfl) (by trivial) (fun hc3 => ?_) (fun hc3 => ?_)
      · have hmT : T = 1001 := by
          rw [← hend]
          simp at hc3
          omega
        subst hmT
        refine walkGF (And.intro @scells_mk (And.intro hvp (And.intro @iPV_eq (And.intro hwl2 (And.intro hwl (And.intro hln2 (And.intro hap hw))))))) ?_
        refine .next ⟨i + 1, by omega⟩ ?_ (by simp only []; omega)
        simp only [hl2, rA_sc, scells_mk, hdn.out, Weak, eq_self, used_is, sc_any, sc_c, sc_pp, sc_ref, sc_row, sc_agg, sc_fn, ScL, some_imp, List.forall_mem_map, go_sem, Int.reduceBEq, Int.reduceLE, Int.reduceLT, Int.reduceNeg, Nat.reduceAdd, Nat.reduceEqDiff, Nat.reduceLT, Nat.reduceLeDiff, Nat.reduceMul, Nat.reduceSub, reduceCtorEq, ↓reduceIte]
        exact ⟨cI (by omega), Nat.le_refl _⟩
      · have hmT : m = T := by
          rw [← hend]
          simp at hc3
          omega
        subst hmT
        refine walkGF (And.intro @scells_mk (And.intro hvp (And.intro @iPV_eq (And.intro hwl2 (And.intro hwl (And.intro hln2 (And.intro hap hw))))))) ?_
        refine .next ⟨i + 1, by omega⟩ ?_ (by simp only []; omega)
        simp only [hl2, rA_sc, scells_mk, hdn.out, Weak, eq_self, used_is, sc_any, sc_c, sc_pp, sc_ref, sc_row, sc_agg, sc_fn, ScL, some_imp, List.forall_mem_map, go_sem, Int.reduceBEq, Int.reduceLE, Int.reduceLT, Int.reduceNeg, Nat.reduceAdd, Nat.reduceEqDiff, Nat.reduceLT, Nat.reduceLeDiff, Nat.reduceMul, Nat.reduceSub, reduceCtorEq, ↓reduceIte]
        exact ⟨cI (by omega), Nat.le_refl _⟩
  have hie : i = s.nodes.length := by simp at hc; omega
  have hsl : (wstep s.nodes w).length = s.nodes.length := by simp [wstep]
  subst hie
  rw [show (wstep s.nodes w).take s.nodes.length = wstep s.nodes w from List.take_of_length_le (by omega)]
  have hln3 : (rA iPV (wstep s.nodes w)).length = s.nodes.length := by rw [rA_len, hsl]
  obtain ⟨d, hd⟩ : ∃ d, d = difT (wstep s.nodes w) w s.nodes.length := ⟨_, rfl⟩
  rw [← hd]
  have hde := difT_end (a := wstep s.nodes w) (b := w) hsl hwl
  rw [← hd] at hde
  have hlack := fun h : wstep s.nodes w ≠ w => wstep_lack ⟨hwl, hwr, hwm⟩ h
  have hok := wok_step ⟨hwl, hwr, hwm⟩
  refine VC.frz [3232] [(1, .ref 0 1 0 0), (6, .c (.sl 1 ((wstep s.nodes w).map iPV))), (5, .c (.v (.bool d)))] [(0, ⟨false, 24, 2, [s.cells.map .c]⟩)] 12000 ?_ ?_
  · simp only [rA_sc, rA_len, scells_mk, WeakF, used_is, sc_any, sc_c, sc_pp, sc_ref, sc_row, sc_agg, sc_fn, ScL, some_imp, List.forall_mem_map, go_sem, Int.reduceBEq, Int.reduceLE, Int.reduceLT, Int.reduceNeg, Nat.reduceAdd, Nat.reduceEqDiff, Nat.reduceLT, Nat.reduceLeDiff, Nat.reduceMul, Nat.reduceSub, reduceCtorEq, ↓reduceIte]
    exact ⟨⟨.same _, .row (B := ⟨true, 3, 1, rA iPV (wstep s.nodes w)⟩) (es := (wstep s.nodes w).map iPV) (by simp) rfl rfl hln3 (rA_pv _ _), .same _⟩, .same _⟩
  refine walkG ?_
  refine .next ⟨(wstep s.nodes w, d), hok, fun h => ?_⟩ ?_ ?_
  · have e := hde.1 h
    simp only []
    rw [e]
    exact e
  · simp only [scells_mk, Weak, eq_self, used_is, sc_any, sc_c, sc_pp, sc_ref, sc_row, sc_agg, sc_fn, ScL, some_imp, List.forall_mem_map, go_sem, Int.reduceBEq, Int.reduceLE, Int.reduceLT, Int.reduceNeg, Nat.reduceAdd, Nat.reduceEqDiff, Nat.reduceLT, Nat.reduceLeDiff, Nat.reduceMul, Nat.reduceSub, reduceCtorEq, ↓reduceIte]
  · simp only []
    cases d with
    | false =>
      have e := hde.1 rfl
      rw [e]
      simp
    | true =>
      have := hlack fun e => by
        have := hde.2 e
        simp at this
      simp
      omega
end
section

section
variable {P : Program} {N : Nat} {Q : Exit → ASt → Prop} {id : Nat} {o1 o2 : Oper} {t : Nat → AV} {h : Nat → Option Blkd} {n d1 d2 : Nat}
theorem eval_put {a : Act} {v : Value} (h : d1 < a.tmps.size) : (a.put (some d1) v).eval (.tmp d1) = v := by
  show (a.tmps.setIfInBounds d1 v).getD d1 undef = v
  simp [Array.getD, h]
theorem VC.nilq (ty ty' : TypeId) (x : Operand) (T : TyA) (z : Nat) (es : List (List PV)) (ho1 : o1.op = .move x) (hg1 : o1.guard = none) (hd1 : o1.dst = some d1)
    (ho2 : o2.op = .binOp .eql ty (.tmp d1) (.const (.slice none 0 0)) ty') (hg2 : o2.guard = none) (hd2 : o2.dst = some d2) (hx : okx t x) (ex : ev t x = .c (.sl z es)) (hT : tyA P ty = some T) (hk : T.kind = 1)
    (hd : dstOk [o1, o2].toArray N = true) (hL : Nat.ble (n + 8 * [o1, o2].length) L0 = true)
    (H : ∀ b : Bool, (es ≠ [] → b = false) → Q .normal ⟨putd (some d2) (.c (.v (.bool b))) (putd (some d1) (.c (.sl z es)) t), h, n + 8 * [o1, o2].length⟩) : VC P N (.region id [o1, o2].toArray false) ⟨t, h, n⟩ Q := ⟨fun C a W r => by
  obtain ⟨ro, φ, r⟩ := r
  have hdo := dst_of hd
  have hdn : d1 < N := hdo o1 (by simp) d1 hd1
  refine wp_region_list (wpList_step fun K hK => ?_)
  rw [if_pos (show Region.wanted o1 _ = true by unfold Region.wanted; rw [hg1])]
  have hrx := ev_rep r x hx
  have hsx := ev_sc r x hx
  rw [ex] at hrx hsx
  generalize hv : a.eval x = v at hrx
  have r1 := r.put (d := some d1) hrx hsx (fun k hk => by obtain rfl := Option.some.inj hk; exact hdn)
  have he1 : (a.put (some d1) v).eval (.tmp d1) = v := eval_put (by rw [r.size]; exact hdn)
  have hex1 : (execOp a.eval o1).run P W = .ok (.value v) W := by simp [execOp, ho1, hv]
  unfold Oper.wp
  rw [hex1]
  show K (a.put o1.dst v) W
  rw [hd1]
  refine hK _ _ (wpList_step fun K2 hK2 => ?_)
  rw [if_pos (show Region.wanted o2 _ = true by unfold Region.wanted; rw [hg2])]
  obtain ⟨d, i, a1, a2, rfl⟩ := tyA_some hT
  obtain ⟨e, rfl⟩ := kind_slice hk
  obtain ⟨b, hb, hrun⟩ : ∃ b : Bool, (es ≠ [] → b = false) ∧ (execOp (a.put (some d1) v).eval o2).run P W = .ok (.value (.bool b)) W := by
    cases hrx with
    | c hp =>
    cases hp with
    | @sl _ _ aa c vss hn hc hnil ha hvl hz1 hz2 hxx =>
      refine ⟨aa.isNone, fun hne => ?_, ?_⟩
      · obtain ⟨b, off, rfl, _⟩ := ha hne
        rfl
      · have he : (Op.equal ty (.slice aa es.length c) (.slice none 0 0)).run P W = .ok aa.isNone W := by
          show (Op.equalIn (9999 + 1) ty _ _).run P W = _
          rw [Op.equalIn]
          cases aa <;> simp [run_underlying a1]
        have hg : (eqGuard .eql ty (.tmp d1) (.const (.slice none 0 0)) (.slice aa es.length c) (.slice none 0 0)).run P W = .ok () W := by simp [eqGuard]
        have hn0 : (a.put (some d1) (.slice aa es.length c)).eval (.const (.slice none 0 0)) = .slice none 0 0 := rfl
        simp [execOp, ho2, he1, hn0, hg, binOp, he]
  have r2 := r1.put (d := some d2) (x := .c (.v (.bool b))) (v := .bool b) (.c (.v rfl)) .c (fun k hk => by obtain rfl := Option.some.inj hk; exact hdo o2 (by simp) _ hd2)
  unfold Oper.wp
  rw [hrun]
  show K2 ((a.put (some d1) v).put o2.dst (.bool b)) W
  rw [hd2]
  refine hK2 _ _ (wpList_nil ?_)
  refine ⟨_, H b hb, ro, φ, r2.take fun j hj => ?_⟩
  simp only [List.length_cons, List.length_nil] at hj ⊢
  unfold Used at hj ⊢
  omega⟩
end
end
section
attribute [local go_sem] opx opE ev okx gcond bnd okO AV.get AV.okb cAV upd_at putd_some putd_none wrs_nil wrs_cons look_nil look_cons st argT_at bpick_and bpick_or bpick_true bpick_false binV binI binS binVOk binOk isShift binSOk unV unVOk loadV loadP cellsA zeroA Blkd.len setE grown moreA moreR moreOk eqRes pv fillA fillE putSeg AV.cellish AV.pureL AV.pureB lentL_is ex_some AV.ren AV.renL renL_c Blkd.ren rho wrM renN lentOk rhoE keepM endOk tyA_2 tyA_3 tyA_4 tyA_5 tyA_6 tyA_7 tyA_8 tyA_9 tyA_10 tyA_11 tyA_12 tyA_13 tyA_14 tyA_15 tyA_16 tyA_17 tyA_18 tyA_19 tyA_21 tyA_22 tyA_23 tyA_24 tyA_29 tyA_30 tyA_31 tyA_32 tyA_33 tyA_34 tyA_35 tyA_36 tyA_37 tyA_38 tyA_39 tyA_40 tyA_41 tyA_42 tyA_43 tyA_51 tyA_73 tyA_77 tyA_99 tyA_100 tyA_101 tyA_114 tyA_120 tyA_121 tyA_122 tyA_131 tyA_132 tyA_133 tyA_134 tyA_135 tyA_138 tyA_139 tyA_140 tyA_149 tyA_163 tyA_168 tyA_210 tyA_212 tyA_219 tyA_227 tyA_231 tyA_233 tyA_237 tyA_238 tyA_239 tyA_240 tyA_241 tyA_243 tyA_244 tyA_246 tyA_247 tyA_248 tyA_251 Option.map_some Option.map_none Option.getD_some Option.getD_none Option.bind_some Option.bind_none List.getElem?_cons_zero List.getElem?_cons_succ List.getElem?_nil List.getElem?_toArray List.length_cons List.length_nil List.length_map List.forall_mem_map List.map_cons List.map_nil List.drop_zero List.drop_succ_cons List.drop_nil List.take_zero List.take_succ_cons List.take_nil List.mem_cons List.not_mem_nil or_false forall_eq_or_imp forall_eq List.set_cons_zero List.set_cons_succ List.cons_append List.nil_append List.append_nil List.foldl_cons List.foldl_nil List.replicate_succ List.replicate_zero List.all_cons List.all_nil if_true if_false Bool.false_eq_true ne_eq not_false_eq_true not_true_eq_false true_and and_true and_self true_implies imp_self implies_true forall_const beq_self_eq_true Bool.and_true Bool.true_and Bool.and_false Bool.false_and Bool.or_true Bool.true_or Bool.or_false Bool.false_or Bool.not_true Bool.not_false Bool.not_eq_eq_eq_not intKindOf Value.oneCell' Int.toNat_natCast beq_true beq_false Bool.not_eq_true false_implies false_or true_or or_true Nat.zero_add Nat.add_zero decide_true decide_false Int.cast_ofNat_Int Int.toNat_zero Int.toNat_one eq_self

set_option maxRecDepth 100000 in
set_option maxHeartbeats 400000 in
theorem cloneS_told (es : List (List UInt8)) (hl : es.length ≤ 1000000) : Told Tryz.prog 46 [.c (.sl 1 (es.map sPV))] (.c (.sl 1 (es.map sPV))) := by
  refine VC.told ent_46 Tryz.func46 rfl Tryz.ntmps46 (by simp) (by first | rfl | simp [AV.pureB, AV.pureL, pureL_c, pures]) (by first | rfl | simp [AV.pureB, AV.pureL, pureL_c, pures]) fun hb => ?_
  clear hb
  (refine VC.seq ?_; (first | refine VC.region (by rfl) (by rfl) ?_ | refine VC.draw mixP (by rfl) (by rfl) ?_); (repeat (refine AO.step fun K hK => ?_; simp only [go_sem, Int.reduceBEq, Int.reduceLE, Int.reduceLT, Int.reduceNeg, Nat.reduceAdd, Nat.reduceEqDiff, Nat.reduceLT, Nat.reduceLeDiff, Nat.reduceMul, Nat.reduceSub, reduceCtorEq, ↓reduceIte]; (first | refine gsel_skip ?_ | refine gsel_go ?_ | skip); (first | refine hK _ _ _ ?_ | refine ⟨by first | omega | exact ⟨_, rfl, rfl⟩ | exact fun _ => ⟨_, rfl, rfl⟩ | (intro h; simp only [h, true_and]; omega) | (clear hK; intro h; simp_all <;> omega), hK _ _ _ ?_⟩); clear hK K)); refine AO.nil ?_; first | refine SQ.normal ?_ | refine ⟨okd_of (by kernel_rfl), SQ.normal ?_⟩)
  refine VC.seq ?_
  refine VC.seq ?_
  refine VC.nilq _ _ (.tmp 0) _ 1 (es.map sPV) rfl rfl rfl rfl rfl rfl trivial rfl tyA_29 rfl (by rfl) (by rfl) fun b hb0 => ?_
  refine SQ.normal ?_
  cases b with
  | true =>
    have he : es = [] := by
      cases es with
      | nil => rfl
      | cons x l => exact absurd (hb0 (by simp)) (by simp)
    subst he
    refine walkB ?_
    refine ⟨by first | exact .inr rfl | exact .inl rfl, ?_⟩; rw [Tryz.results46]; simp only [resOk, resV, go_sem, Int.reduceBEq, Int.reduceLE, Int.reduceLT, Int.reduceNeg, Nat.reduceAdd, Nat.reduceEqDiff, Nat.reduceLT, Nat.reduceLeDiff, Nat.reduceMul, Nat.reduceSub, reduceCtorEq, ↓reduceIte]
    exact .nil 1
  | false =>
    refine walkB ?_
    refine ⟨by first | exact .inr rfl | exact .inl rfl, ?_⟩; rw [Tryz.results46]; simp only [resOk, resV, go_sem, Int.reduceBEq, Int.reduceLE, Int.reduceLT, Int.reduceNeg, Nat.reduceAdd, Nat.reduceEqDiff, Nat.reduceLT, Nat.reduceLeDiff, Nat.reduceMul, Nat.reduceSub, reduceCtorEq, ↓reduceIte]
    refine frz_rA (f := sPV) (l := es) (T := 9) ?_ ?_ rfl (fun x _ => rfl)
    · simp [upd_at, rA_pv]
    · simp

theorem rA_self {α : Type} {f : α → List PV} {l : List α} {i : Nat} {x : α} (h : l[i]? = some x) : (rA f l).set i ((f x).map .c) = rA f l := by
  rw [rA_set]
  congr 1
  obtain ⟨h1, rfl⟩ := List.getElem?_eq_some_iff.1 h
  exact List.set_getElem_self h1

theorem namesM_take {ns : List NT} {i : Nat} {n : NT} (h : ns[i]? = some n) : namesM (ns.take (i + 1)) = namesM (ns.take i) ++ (if namedK n.kind = true then [n.name] else []) := by
  rw [List.take_add_one, h]
  simp only [namesM, List.filter_append, List.map_append, Option.toList_some]
  congr 1
  by_cases hk : namedK n.kind = true
  · simp [hk]
  · simp [hk]
theorem rA_rep (N : Nat) : rA iPV (List.replicate N 0) = List.replicate N [AV.c (.v (.int .i64 0))] := by
  simp [rA, iPV]
theorem ordered_kids {s : ST} (h : orderedM s = true) : ∀ n ∈ s.nodes, ∀ k ∈ kidsN n, 0 ≤ k ∧ k < (s.nodes.length : Int) := by
  intro n hn k hk
  obtain ⟨i, hi⟩ := List.getElem?_of_mem hn
  have := (ordered_stand h).1 i n (Nat.zero_le _) (List.getElem?_eq_some_iff.1 hi).1 hi k hk
  exact ⟨this.1, this.2.1⟩
theorem names_sm {ns : List NT} {N : Nat} (h : ∀ n ∈ ns, n.sm N) : ∀ x ∈ namesM ns, x.length ≤ N := by
  intro x hx
  obtain ⟨n, hn, rfl⟩ := List.mem_map.1 hx
  exact (h n (List.mem_filter.1 hn).1).1
theorem names_len (ns : List NT) : (namesM ns).length ≤ ns.length := by
  unfold namesM
  rw [List.length_map]
  exact List.length_filter_le _ _
set_option maxRecDepth 100000 in
set_option maxHeartbeats 1600000 in
theorem sRight_told (s : ST) (hsm : s.sm 1000000) : Told Tryz.prog 26 [s.av] (.c (.v (.bool (rightM s)))) := by
  obtain ⟨V, hV⟩ : ∃ V, V = rightM s := ⟨_, rfl⟩
  rw [← hV]
  unfold rightM at hV
  obtain ⟨hl, hs⟩ := hsm
  have hO := ordered_told s hl hs
  simp only [ST.av_eq, scells_mk, List.map_cons, List.map_nil] at hO
  rw [ST.av_eq, scells_mk]
  cases ho : orderedM s with
  | false =>
    rw [ho] at hO hV
    obtain rfl : V = false := hV
    refine VC.told ent_26 Tryz.func26 rfl Tryz.ntmps26 (by simp) (by first | rfl | simp [AV.pureB, AV.pureL, pureL_c, pures]) (by first | rfl | simp [AV.pureB, AV.pureL, pureL_c, pures]) fun hb => ?_
    clear hb
    refine walkG ?_
    refine walkC (hO) ?_
    refine walkB ?_
    refine ⟨by first | exact .inr rfl | exact .inl rfl, ?_⟩; rw [Tryz.results26]; simp only [resOk, resV, go_sem, Int.reduceBEq, Int.reduceLE, Int.reduceLT, Int.reduceNeg, Nat.reduceAdd, Nat.reduceEqDiff, Nat.reduceLT, Nat.reduceLeDiff, Nat.reduceMul, Nat.reduceSub, reduceCtorEq, ↓reduceIte]
    exact .c _
  | true =>
  rw [ho] at hO hV
  have hki := ordered_kids ho
  rw [Bool.true_and] at hV
  obtain ⟨R, hR⟩ : ∃ R, R = rightL s.nodes s.nodes 0 (List.replicate s.nodes.length 0) := ⟨_, rfl⟩
  rw [← hR] at hV
  have hnm : ∀ i, (namesM (s.nodes.take i)).length ≤ 1000000 := fun i => by
    have := names_len (s.nodes.take i)
    rw [List.length_take] at this
    omega
  refine VC.told ent_26 Tryz.func26 rfl Tryz.ntmps26 (by simp) (by first | rfl | simp [AV.pureB, AV.pureL, pureL_c, pures]) (by first | rfl | simp [AV.pureB, AV.pureL, pureL_c, pures]) fun hb => ?_
  clear hb
  refine walkG ?_
  refine walkC (hO) ?_
  refine walkB ?_
  refine VC.nil 3 9 1 (by rfl) (by trivial) (by rfl) ?_
  refine VC.loop (ι := {x : Nat × List Int // x.1 ≤ s.nodes.length ∧ x.2.length = s.nodes.length ∧ KnOk x.2 ∧ rightL s.nodes (s.nodes.drop x.1) x.1 x.2 = R})
    (fun q => [(1, .ref 0 1 0 0), (3, .row 120 (namesM (s.nodes.take q.1.1)).length), (4, .row 72 s.nodes.length), (15, .c (.sl 10 (s.nodes.map NT.cells))), (16, .c (.v (.int .i64 (s.nodes.length : Int)))), (17, .c (.v (.int .i64 (q.1.1 : Int))))])
    (fun q => [(0, ⟨false, 24, 2, [[.c (.sl 10 (s.nodes.map NT.cells)), .c (.v (.int .i64 s.root))]]⟩), (72, ⟨true, 3, 1, rA iPV q.1.2⟩), (120, ⟨true, 9, 1, rA sPV (namesM (s.nodes.take q.1.1))⟩)]) 800 (fun q => s.nodes.length - q.1.1)
    ⟨(0, List.replicate s.nodes.length 0), Nat.zero_le _, by simp, fun x hx => by obtain rfl := (List.mem_replicate.1 hx).2; decide, by rw [List.drop_zero]; exact hR.symm⟩ ?_ ?_
  · simp only [rA_len, rA_sc, rA_rep, List.length_replicate, Weak, eq_self, used_is, sc_any, sc_c, sc_pp, sc_ref, sc_row, sc_agg, sc_fn, ScL, some_imp, List.forall_mem_map, go_sem, Int.reduceBEq, Int.reduceLE, Int.reduceLT, Int.reduceNeg, Nat.reduceAdd, Nat.reduceEqDiff, Nat.reduceLT, Nat.reduceLeDiff, Nat.reduceMul, Nat.reduceSub, reduceCtorEq, ↓reduceIte]
    refine ⟨rfl, rfl, ⟨Nat.le_refl _, Nat.le_refl _⟩, fun e he x hx => ?_⟩
    obtain rfl := (List.mem_replicate.1 he).2
    obtain rfl := List.mem_singleton.1 hx
    exact .c
  clear hR hO
  rintro ⟨⟨i, kn⟩, hi, hk, hko, hR⟩
  simp only [] at hi hk hko hR ⊢
  have hkl : (rA iPV kn).length = s.nodes.length := by rw [rA_len, hk]
  refine walkG ?_
  refine VC.cond (by rfl) (by trivial) (fun hc => ?_) (fun hc => ?_)
  · have hlt : i < s.nodes.length := by simp at hc; omega
    obtain ⟨n, hn⟩ : ∃ n, s.nodes[i]? = some n := ⟨s.nodes[i], List.getElem?_eq_getElem hlt⟩
    have hnp : (s.nodes.map NT.cells)[i]? = some n.cells := by rw [List.getElem?_map, hn]; rfl
    have hw : IntKind.i64.wrap ((i : Int) + 1) = (i : Int) + 1 := wrap64_id (by omega) (by omega)
    have hmem := List.mem_of_getElem? hn
    have hNd := node_told s n (hs n hmem) fun h13 k hk => hki n hmem k (by rw [kidsN, if_neg (by omega), if_neg (by omega), if_pos h13]; exact hk)
    have hNm := named_told n.kind
    have hW := weight_told s hl hs (fun m hm h9 f hf => hki m hm f.type (by rw [kidsN, if_pos h9]; exact List.mem_map.2 ⟨f, hf, rfl⟩)) (s.nodes.length + 1) i kn hlt hk hko (by have := List.count_le_length (a := (0 : Int)) (l := kn); omega)
    obtain ⟨w1, w2, w3, w4, w5⟩ := weighM_ok s.nodes (s.nodes.length + 1) i kn hk hko
    rw [(List.drop_eq_getElem_cons hlt).trans (by rw [(List.getElem?_eq_some_iff.1 hn).2]), rightL] at hR
    obtain ⟨M, hM⟩ : ∃ M, M = weighM s.nodes (s.nodes.length + 1) i kn := ⟨_, rfl⟩
    rw [← hM] at hW hR w1 w2 w3 w4 w5
    clear hM
    simp only [ST.av_eq, scells_mk, NT.av_eq, ncells_mk, List.map_cons, List.map_nil] at hNd hW
    have hkl2 : (rA iPV M.2).length = s.nodes.length := by rw [rA_len, w1]
    have hnl : (rA sPV (namesM (s.nodes.take i))).length = (namesM (s.nodes.take i)).length := rA_len _ _
    have hnt := namesM_take hn
    have hni := hnm i
    cases hnn : nodeM s.nodes n with
    | false =>
      rw [hnn] at hNd hR
      obtain rfl : R = false := hR.symm
      obtain rfl : V = false := hV
      refine walkGF (And.intro hnp (And.intro @ncells_mk hkl)) ?_
      refine walkC (hNd) ?_
      refine walkB ?_
      refine ⟨by first | exact .inr rfl | exact .inl rfl, ?_⟩; rw [Tryz.results26]; simp only [resOk, resV, go_sem, Int.reduceBEq, Int.reduceLE, Int.reduceLT, Int.reduceNeg, Nat.reduceAdd, Nat.reduceEqDiff, Nat.reduceLT, Nat.reduceLeDiff, Nat.reduceMul, Nat.reduceSub, reduceCtorEq, ↓reduceIte]
      exact .c _
    | true =>
      rw [hnn] at hNd hR
      rw [Bool.true_and] at hR
      refine walkGF (And.intro hnp (And.intro @ncells_mk hkl)) ?_
      refine walkC (hNd) ?_
      refine walkG ?_
      ((refine AO.step fun K hK => ?_; simp only [go_sem, Int.reduceBEq, Int.reduceLE, Int.reduceLT, Int.reduceNeg, Nat.reduceAdd, Nat.reduceEqDiff, Nat.reduceLT, Nat.reduceLeDiff, Nat.reduceMul, Nat.reduceSub, reduceCtorEq, ↓reduceIte, hkl, rA_ren]; (first | refine gsel_go ?_ | skip)); refine .inr (.inr (.inl ⟨?vy1, [72], ?va1, ?vl1, ?vm1, ?cond1, ?cont1⟩)); (case cond1 => ((repeat' apply And.intro) <;> (try ((with_reducible show ToldM _ _ _ _ _ _); exact hW))); (all_goals first | trivial | (simp only [hkl, rA_ren, go_sem, Int.reduceBEq, Int.reduceLE, Int.reduceLT, Int.reduceNeg, Nat.reduceAdd, Nat.reduceEqDiff, Nat.reduceLT, Nat.reduceLeDiff, Nat.reduceMul, Nat.reduceSub, reduceCtorEq, ↓reduceIte]; done) | (simp; done) | rfl)); (first | refine hK _ _ _ ?_ | (simp only [hkl, rA_ren, go_sem, Int.reduceBEq, Int.reduceLE, Int.reduceLT, Int.reduceNeg, Nat.reduceAdd, Nat.reduceEqDiff, Nat.reduceLT, Nat.reduceLeDiff, Nat.reduceMul, Nat.reduceSub, reduceCtorEq, ↓reduceIte]; first | refine hK _ _ _ ?_ | refine ⟨rfl, hK _ _ _ ?_⟩)); clear hK K)
      refine walkG ?_
      refine VC.cond (by rfl) (by trivial) (fun hc2 => ?_) (fun hc2 => ?_)
      · have hf : V = false := by
          have : ¬ M.1 ≤ 1000 := by simp at hc2; omega
          rw [hV, ← hR]
          simp [this]
        subst hf
        refine walkG ?_
        refine ⟨by first | exact .inr rfl | exact .inl rfl, ?_⟩; rw [Tryz.results26]; simp only [resOk, resV, go_sem, Int.reduceBEq, Int.reduceLE, Int.reduceLT, Int.reduceNeg, Nat.reduceAdd, Nat.reduceEqDiff, Nat.reduceLT, Nat.reduceLeDiff, Nat.reduceMul, Nat.reduceSub, reduceCtorEq, ↓reduceIte]
        exact .c _
      have hm1 : M.1 ≤ 1000 := by simp at hc2; omega
      have hR2 : rightL s.nodes (s.nodes.drop (i + 1)) (i + 1) M.2 = R := by
        rw [← hR]
        simp [hm1]
      refine walkGF (hkl2) ?_
      refine walkC (hNm) ?_
      refine walkG ?_
      refine VC.cond (by rfl) (by trivial) (fun hc3 => ?_) (fun hc3 => ?_)
      · rw [if_pos hc3] at hnt
        have hr : rA sPV (namesM (s.nodes.take i)) ++ [[.c (.v (.string (str n.name)))]] = rA sPV (namesM (s.nodes.take (i + 1))) := by
          rw [hnt]
          exact rA_one sPV _ n.name
        have hl2 : (namesM (s.nodes.take (i + 1))).length = (namesM (s.nodes.take i)).length + 1 := by rw [hnt]; simp
        refine walkGF (And.intro hnl (And.intro hr hw)) ?_
        refine .next ⟨(i + 1, M.2), by simp only []; omega, w1, w2, hR2⟩ ?_ (by simp only []; omega)
        simp only [rA_len, rA_sc, rA_ren, w1, hl2, Weak, eq_self, used_is, sc_any, sc_c, sc_pp, sc_ref, sc_row, sc_agg, sc_fn, ScL, some_imp, List.forall_mem_map, go_sem, Int.reduceBEq, Int.reduceLE, Int.reduceLT, Int.reduceNeg, Nat.reduceAdd, Nat.reduceEqDiff, Nat.reduceLT, Nat.reduceLeDiff, Nat.reduceMul, Nat.reduceSub, reduceCtorEq, ↓reduceIte]
        exact ⟨cI (by omega), Nat.le_refl _, Nat.le_refl _⟩
      · rw [if_neg (by rw [hc3]; simp), List.append_nil] at hnt
        refine walkGF (hw) ?_
        refine .next ⟨(i + 1, M.2), by simp only []; omega, w1, w2, hR2⟩ ?_ (by simp only []; omega)
        simp only [rA_len, rA_sc, rA_ren, w1, hnt, Weak, eq_self, used_is, sc_any, sc_c, sc_pp, sc_ref, sc_row, sc_agg, sc_fn, ScL, some_imp, List.forall_mem_map, go_sem, Int.reduceBEq, Int.reduceLE, Int.reduceLT, Int.reduceNeg, Nat.reduceAdd, Nat.reduceEqDiff, Nat.reduceLT, Nat.reduceLeDiff, Nat.reduceMul, Nat.reduceSub, reduceCtorEq, ↓reduceIte]
        exact ⟨cI (by omega), Nat.le_refl _, Nat.le_refl _⟩
  · have hie : i = s.nodes.length := by simp at hc; omega
    have hf : R = true := by
      rw [← hR, hie, List.drop_length, rightL]
    subst hf
    rw [Bool.true_and] at hV
    have htk : s.nodes.take i = s.nodes := by rw [hie, List.take_length]
    rw [htk]
    have hnm0 := hnm i
    rw [htk] at hnm0
    have hD := different_told (g := 65) (rule := fullM) (namesM s.nodes) (by omega) fun x hx => full_told x (by have := names_sm hs x hx; omega)
    rw [← hV] at hD
    have hrl : (rA sPV (namesM s.nodes)).length = (namesM s.nodes).length := rA_len _ _
    refine walkGF (hrl) ?_
    (refine AO.step fun K hK => ?_; simp only [go_sem, Int.reduceBEq, Int.reduceLE, Int.reduceLT, Int.reduceNeg, Nat.reduceAdd, Nat.reduceEqDiff, Nat.reduceLT, Nat.reduceLeDiff, Nat.reduceMul, Nat.reduceSub, reduceCtorEq, ↓reduceIte, hrl]; (first | refine gsel_go ?_ | skip))
    refine .inr (.inl ⟨.c (.v (.bool V)), [.c (.sl 1 ((namesM s.nodes).map sPV)), .fn (.func 65) [] []], [120], ⟨by simp [AV.pureL, AV.pureB], rfl, fun k x z h5 h6 => ?_, rfl, hD⟩, hK _ _ _ ?_⟩)
    · match k with
      | 0 =>
        obtain rfl := Option.some.inj h5
        obtain rfl := Option.some.inj h6
        exact View.row (B := ⟨true, 9, 1, rA sPV (namesM s.nodes)⟩) (es := (namesM s.nodes).map sPV) rfl rfl hrl (rA_pv _ _)
      | 1 => obtain rfl := Option.some.inj h5; obtain rfl := Option.some.inj h6; exact .same _
      | k + 2 => simp at h5
    clear hK K
    refine walkG ?_
    refine ⟨by first | exact .inr rfl | exact .inl rfl, ?_⟩; rw [Tryz.results26]; simp only [resOk, resV, go_sem, Int.reduceBEq, Int.reduceLE, Int.reduceLT, Int.reduceNeg, Nat.reduceAdd, Nat.reduceEqDiff, Nat.reduceLT, Nat.reduceLeDiff, Nat.reduceMul, Nat.reduceSub, reduceCtorEq, ↓reduceIte]
    exact .c _

theorem cellish_map (l : List PV) : ∀ x ∈ l.map AV.c, x.cellish = true := fun x hx => by
  obtain ⟨p, _, rfl⟩ := List.mem_map.1 hx
  rfl
end

theorem ssm_le' {s : ST} (h : s.sm 2500) : s.sm 1000000 := by
  obtain ⟨h1, h2⟩ := h
  refine ⟨by omega, fun n hn => ?_⟩
  obtain ⟨a1, a2, ⟨a3, a4⟩, ⟨a5, a6⟩, a7, a8, a9⟩ := h2 n hn
  refine ⟨by omega, by omega, ⟨by omega, fun y hy => by have := a4 y hy; omega⟩, ⟨by omega, fun y hy => by have := a6 y hy; omega⟩, by omega, by omega, fun f hf => ?_⟩
  obtain ⟨b1, b2, b3, b4⟩ := a9 f hf
  exact ⟨by omega, by omega, fun y hy => by have := b3 y hy; omega, sm_le (by omega) _ b4⟩
theorem range_kinds {s : ST} (h : orderedM s = true) : ∀ n ∈ s.nodes, n.kind = 9 → ∀ f ∈ n.fields, 0 ≤ f.type ∧ f.type < (s.nodes.length : Int) := fun n hn h9 f hf =>
  ordered_kids h n hn f.type (by rw [kidsN, if_pos h9]; exact List.mem_map.2 ⟨f, hf, rfl⟩)
theorem range_at {s : ST} (h : orderedM s = true) : ∀ p, ∀ x ∈ fieldsAt s.nodes p, x.type.toNat < s.nodes.length := fun p x hx => by
  unfold fieldsAt at hx
  split at hx
  · rename_i n hn
    split at hx
    · rename_i h9
      have := range_kinds h n (List.mem_of_getElem? hn) h9 x hx
      omega
    · simp at hx
  · simp at hx
section
attribute [local go_sem] opx opE ev okx gcond bnd okO AV.get AV.okb cAV upd_at putd_some putd_none wrs_nil wrs_cons look_nil look_cons st argT_at bpick_and bpick_or bpick_true bpick_false binV binI binS binVOk binOk isShift binSOk unV unVOk loadV loadP cellsA zeroA Blkd.len setE grown moreA moreR moreOk eqRes pv fillA fillE putSeg AV.cellish AV.pureL AV.pureB lentL_is ex_some AV.ren AV.renL renL_c Blkd.ren rho wrM renN lentOk rhoE keepM endOk tyA_2 tyA_3 tyA_4 tyA_5 tyA_6 tyA_7 tyA_8 tyA_9 tyA_10 tyA_11 tyA_12 tyA_13 tyA_14 tyA_15 tyA_16 tyA_17 tyA_18 tyA_19 tyA_21 tyA_22 tyA_23 tyA_24 tyA_29 tyA_30 tyA_31 tyA_32 tyA_33 tyA_34 tyA_35 tyA_36 tyA_37 tyA_38 tyA_39 tyA_40 tyA_41 tyA_42 tyA_43 tyA_51 tyA_73 tyA_77 tyA_99 tyA_100 tyA_101 tyA_114 tyA_120 tyA_121 tyA_122 tyA_131 tyA_132 tyA_133 tyA_134 tyA_135 tyA_138 tyA_139 tyA_140 tyA_149 tyA_163 tyA_168 tyA_210 tyA_212 tyA_219 tyA_227 tyA_231 tyA_233 tyA_237 tyA_238 tyA_239 tyA_240 tyA_241 tyA_243 tyA_244 tyA_246 tyA_247 tyA_248 tyA_251 Option.map_some Option.map_none Option.getD_some Option.getD_none Option.bind_some Option.bind_none List.getElem?_cons_zero List.getElem?_cons_succ List.getElem?_nil List.getElem?_toArray List.length_cons List.length_nil List.length_map List.forall_mem_map List.map_cons List.map_nil List.drop_zero List.drop_succ_cons List.drop_nil List.take_zero List.take_succ_cons List.take_nil List.mem_cons List.not_mem_nil or_false forall_eq_or_imp forall_eq List.set_cons_zero List.set_cons_succ List.cons_append List.nil_append List.append_nil List.foldl_cons List.foldl_nil List.replicate_succ List.replicate_zero List.all_cons List.all_nil if_true if_false Bool.false_eq_true ne_eq not_false_eq_true not_true_eq_false true_and and_true and_self true_implies imp_self implies_true forall_const beq_self_eq_true Bool.and_true Bool.true_and Bool.and_false Bool.false_and Bool.or_true Bool.true_or Bool.or_false Bool.false_or Bool.not_true Bool.not_false Bool.not_eq_eq_eq_not intKindOf Value.oneCell' Int.toNat_natCast beq_true beq_false Bool.not_eq_true false_implies false_or true_or or_true Nat.zero_add Nat.add_zero decide_true decide_false Int.cast_ofNat_Int Int.toNat_zero Int.toNat_one eq_self

theorem gList {ns : List NT} {G : Nat → Int} {l' : List Int} (hG : IsG ns G) (hr : ∀ p, ∀ x ∈ fieldsAt ns p, x.type.toNat < ns.length) (h : WOk ns l') (he : wstep ns l' = l') : l' = (List.range ns.length).map G := by
  apply List.ext_getElem?
  intro i
  by_cases hi : i < ns.length
  · rw [wok_G hG hr h he i hi, List.getElem?_map, List.getElem?_range hi]
    rfl
  · rw [List.getElem?_eq_none (by have := h.1; omega), List.getElem?_eq_none (by simp; omega)]
set_option maxRecDepth 100000 in
set_option maxHeartbeats 3200000 in
theorem rRight_told (s : ST) (hsm : s.sm 1000000) (hdp : ∀ n ∈ s.nodes, ∀ f ∈ n.fields, tdeep f.dflt ≤ 1000) : Told Tryz.prog 53 [s.av] (.c (.v (.bool (rightM s)))) := by
  obtain ⟨V, hV⟩ : ∃ V, V = rightM s := ⟨_, rfl⟩
  rw [← hV]
  obtain ⟨hl, hs⟩ := hsm
  have hO := rordered_told s hl hs
  simp only [ST.av_eq, scells_mk, List.map_cons, List.map_nil] at hO
  rw [ST.av_eq, scells_mk]
  cases ho : orderedM s with
  | false =>
    rw [ho] at hO
    have hf : V = false := by
      cases h : V with
      | false => rfl
      | true =>
        rw [hV] at h
        rw [right_ordered h] at ho
        exact absurd ho (by simp)
    subst hf
    refine VC.told ent_53 Tryz.func53 rfl Tryz.ntmps53 (by simp) (by first | rfl | simp [AV.pureB, AV.pureL, pureL_c, pures]) (by first | rfl | simp [AV.pureB, AV.pureL, pureL_c, pures]) fun hb => ?_
    clear hb
    refine walkG ?_
    refine walkC (hO) ?_
    refine walkB ?_
    refine ⟨by first | exact .inr rfl | exact .inl rfl, ?_⟩; rw [Tryz.results53]; simp only [resOk, resV, go_sem, Int.reduceBEq, Int.reduceLE, Int.reduceLT, Int.reduceNeg, Nat.reduceAdd, Nat.reduceEqDiff, Nat.reduceLT, Nat.reduceLeDiff, Nat.reduceMul, Nat.reduceSub, reduceCtorEq, ↓reduceIte]
    exact .c _
  | true =>
  rw [ho] at hO
  have hki := ordered_kids ho
  obtain ⟨G, hG⟩ := exG s.nodes (range_at ho)
  have hE := rightM_eq hG (range_at ho)
  have hWt := rweights_told s hl hs (fun p x hx => by
    unfold fieldsAt at hx
    split at hx
    · rename_i n hn
      split at hx
      · rename_i h9
        exact range_kinds ho n (List.mem_of_getElem? hn) h9 x hx
      · simp at hx
    · simp at hx) _ fun l' h he => gList hG (range_at ho) h he
  simp only [ST.av_eq, scells_mk, List.map_cons, List.map_nil] at hWt
  have hGl : (((List.range s.nodes.length).map G).map iPV).length = s.nodes.length := by simp
  have hGx : ∀ i, i < s.nodes.length → (((List.range s.nodes.length).map G).map iPV)[i]? = some (iPV (G i)) := fun i hi => by rw [List.getElem?_map, List.getElem?_map, List.getElem?_range hi]; rfl
  generalize ((List.range s.nodes.length).map G).map iPV = W at hWt hGl hGx
  have hnm : ∀ i, (namesM (s.nodes.take i)).length ≤ 1000000 := fun i => by
    have := names_len (s.nodes.take i)
    rw [List.length_take] at this
    omega
  refine VC.told ent_53 Tryz.func53 rfl Tryz.ntmps53 (by simp) (by first | rfl | simp [AV.pureB, AV.pureL, pureL_c, pures]) (by first | rfl | simp [AV.pureB, AV.pureL, pureL_c, pures]) fun hb => ?_
  clear hb
  refine walkG ?_
  refine walkC (hO) ?_
  refine walkB ?_
  refine walkC (hWt) ?_
  refine walkG ?_
  refine VC.nil 4 9 1 (by rfl) (by trivial) (by rfl) ?_
  refine VC.loop (ι := {i : Nat // i ≤ s.nodes.length ∧ ∀ (j : Nat) (n : NT), j < i → s.nodes[j]? = some n → nodeM s.nodes n = true ∧ G j ≤ 1000})
    (fun q => [(1, .ref 0 1 0 0), (3, .c (.sl 1 W)), (4, .row 80 (namesM (s.nodes.take q.1)).length), (5, .c (.v (.int .i64 (q.1 : Int))))])
    (fun q => [(0, ⟨false, 24, 2, [s.cells.map .c]⟩), (80, ⟨true, 9, 1, rA sPV (namesM (s.nodes.take q.1))⟩)]) 800 (fun q => s.nodes.length - q.1)
    ⟨0, Nat.zero_le _, fun j n h => by omega⟩ ?_ ?_
  · simp only [rA_len, rA_sc, rA_nil, scells_mk, Weak, eq_self, used_is, sc_any, sc_c, sc_pp, sc_ref, sc_row, sc_agg, sc_fn, ScL, some_imp, List.forall_mem_map, go_sem, Int.reduceBEq, Int.reduceLE, Int.reduceLT, Int.reduceNeg, Nat.reduceAdd, Nat.reduceEqDiff, Nat.reduceLT, Nat.reduceLeDiff, Nat.reduceMul, Nat.reduceSub, reduceCtorEq, ↓reduceIte]
    simp [namesM, rA_nil]
  rintro ⟨i, hi, ht⟩
  simp only []
  refine walkGF (@scells_mk) ?_
  refine VC.cond (by rfl) (by trivial) (fun hc => ?_) (fun hc => ?_)
  · have hlt : i < s.nodes.length := by simp at hc; omega
    obtain ⟨n, hn⟩ : ∃ n, s.nodes[i]? = some n := ⟨s.nodes[i], List.getElem?_eq_getElem hlt⟩
    have hnp : (s.nodes.map NT.cells)[i]? = some n.cells := by rw [List.getElem?_map, hn]; rfl
    have hw : IntKind.i64.wrap ((i : Int) + 1) = (i : Int) + 1 := wrap64_id (by omega) (by omega)
    have hmem := List.mem_of_getElem? hn
    have hNd := rnode_told s n (hs n hmem) (fun h13 k hk => hki n hmem k (by rw [kidsN, if_neg (by omega), if_neg (by omega), if_pos h13]; exact hk)) (hdp n hmem)
    have hNm := rnamed10_told n.kind
    simp only [ST.av_eq, scells_mk, NT.av_eq, ncells_mk, List.map_cons, List.map_nil] at hNd
    have hWx := hGx i hlt
    have hnl : (rA sPV (namesM (s.nodes.take i))).length = (namesM (s.nodes.take i)).length := rA_len _ _
    have hnt := namesM_take hn
    have hni := hnm i
    cases hnn : nodeM s.nodes n with
    | false =>
      have hf : V = false := by
        cases h : V with
        | false => rfl
        | true =>
          rw [hV, hE] at h
          rw [h.2.1 n hmem] at hnn
          exact absurd hnn (by simp)
      subst hf
      rw [hnn] at hNd
      refine walkGF (And.intro @scells_mk (And.intro hnp @ncells_mk)) ?_
      refine walkC (hNd) ?_
      refine walkB ?_
      refine ⟨by first | exact .inr rfl | exact .inl rfl, ?_⟩; rw [Tryz.results53]; simp only [resOk, resV, go_sem, Int.reduceBEq, Int.reduceLE, Int.reduceLT, Int.reduceNeg, Nat.reduceAdd, Nat.reduceEqDiff, Nat.reduceLT, Nat.reduceLeDiff, Nat.reduceMul, Nat.reduceSub, reduceCtorEq, ↓reduceIte]
      exact .c _
    | true =>
      rw [hnn] at hNd
      refine walkGF (And.intro @scells_mk (And.intro hnp @ncells_mk)) ?_
      refine walkC (hNd) ?_
      refine walkGF (And.intro hWx (And.intro @iPV_eq hGl)) ?_
      refine VC.cond (by rfl) (by trivial) (fun hc2 => ?_) (fun hc2 => ?_)
      · have hf : V = false := by
          cases h : V with
          | false => rfl
          | true =>
            rw [hV, hE] at h
            have := h.2.2.1 i hlt
            simp at hc2
            omega
        subst hf
        refine walkG ?_
        refine ⟨by first | exact .inr rfl | exact .inl rfl, ?_⟩; rw [Tryz.results53]; simp only [resOk, resV, go_sem, Int.reduceBEq, Int.reduceLE, Int.reduceLT, Int.reduceNeg, Nat.reduceAdd, Nat.reduceEqDiff, Nat.reduceLT, Nat.reduceLeDiff, Nat.reduceMul, Nat.reduceSub, reduceCtorEq, ↓reduceIte]
        exact .c _
      have hg1 : G i ≤ 1000 := by simp at hc2; omega
      refine walkGF (And.intro @scells_mk (And.intro hnp @ncells_mk)) ?_
      refine walkC (hNm) ?_
      refine walkG ?_
      have hnext : ∀ (j : Nat) (m : NT), j < i + 1 → s.nodes[j]? = some m → nodeM s.nodes m = true ∧ G j ≤ 1000 := fun j m hj hm => by
        by_cases hji : j < i
        · exact ht j m hji hm
        · obtain rfl : j = i := by omega
          rw [hn] at hm
          obtain rfl := Option.some.inj hm
          exact ⟨hnn, hg1⟩
      refine VC.cond (by rfl) (by trivial) (fun hc3 => ?_) (fun hc3 => ?_)
      · rw [if_pos hc3] at hnt
        have hr : rA sPV (namesM (s.nodes.take i)) ++ [[.c (.v (.string (str n.name)))]] = rA sPV (namesM (s.nodes.take (i + 1))) := by
          rw [hnt]
          exact rA_one sPV _ n.name
        have hl2 : (namesM (s.nodes.take (i + 1))).length = (namesM (s.nodes.take i)).length + 1 := by rw [hnt]; simp
        refine walkGF (And.intro @scells_mk (And.intro hnp (And.intro @ncells_mk (And.intro hnl (And.intro hr hw))))) ?_
        refine .next ⟨i + 1, by omega, hnext⟩ ?_ (by simp only []; omega)
        simp only [rA_len, rA_sc, scells_mk, hl2, Weak, eq_self, used_is, sc_any, sc_c, sc_pp, sc_ref, sc_row, sc_agg, sc_fn, ScL, some_imp, List.forall_mem_map, go_sem, Int.reduceBEq, Int.reduceLE, Int.reduceLT, Int.reduceNeg, Nat.reduceAdd, Nat.reduceEqDiff, Nat.reduceLT, Nat.reduceLeDiff, Nat.reduceMul, Nat.reduceSub, reduceCtorEq, ↓reduceIte]
        exact ⟨cI (by omega), Nat.le_refl _⟩
      · rw [if_neg (by rw [hc3]; simp), List.append_nil] at hnt
        refine walkGF (hw) ?_
        refine .next ⟨i + 1, by omega, hnext⟩ ?_ (by simp only []; omega)
        simp only [rA_len, rA_sc, scells_mk, hnt, Weak, eq_self, used_is, sc_any, sc_c, sc_pp, sc_ref, sc_row, sc_agg, sc_fn, ScL, some_imp, List.forall_mem_map, go_sem, Int.reduceBEq, Int.reduceLE, Int.reduceLT, Int.reduceNeg, Nat.reduceAdd, Nat.reduceEqDiff, Nat.reduceLT, Nat.reduceLeDiff, Nat.reduceMul, Nat.reduceSub, reduceCtorEq, ↓reduceIte]
        exact ⟨cI (by omega), Nat.le_refl _⟩
  · have hie : i = s.nodes.length := by simp at hc; omega
    have htk : s.nodes.take i = s.nodes := by rw [hie, List.take_length]
    rw [htk]
    have hnm0 := hnm i
    rw [htk] at hnm0
    have hf : V = decide (namesM s.nodes).Nodup := by
      rw [hV, Bool.eq_iff_iff, hE, decide_eq_true_eq]
      constructor
      · exact fun h => h.2.2.2
      · refine fun h => ⟨ho, fun m hm => ?_, fun j hj => ?_, h⟩
        · obtain ⟨j, hj⟩ := List.getElem?_of_mem hm
          exact (ht j m (by have := (List.getElem?_eq_some_iff.1 hj).1; omega) hj).1
        · exact (ht j _ (by omega) (List.getElem?_eq_getElem hj)).2
    have hO2 := ronce_told (namesM s.nodes) (by omega)
    rw [← hf] at hO2
    have hrl : (rA sPV (namesM s.nodes)).length = (namesM s.nodes).length := rA_len _ _
    refine walkGF (hrl) ?_
    (refine AO.step fun K hK => ?_; simp only [go_sem, Int.reduceBEq, Int.reduceLE, Int.reduceLT, Int.reduceNeg, Nat.reduceAdd, Nat.reduceEqDiff, Nat.reduceLT, Nat.reduceLeDiff, Nat.reduceMul, Nat.reduceSub, reduceCtorEq, ↓reduceIte, hrl]; (first | refine gsel_go ?_ | skip))
    refine .inr (.inl ⟨.c (.v (.bool V)), [.c (.sl 1 ((namesM s.nodes).map sPV))], [80], ⟨by simp [AV.pureL, AV.pureB], rfl, fun k x z h5 h6 => ?_, rfl, hO2⟩, hK _ _ _ ?_⟩)
    · match k with
      | 0 =>
        obtain rfl := Option.some.inj h5
        obtain rfl := Option.some.inj h6
        exact View.row (B := ⟨true, 9, 1, rA sPV (namesM s.nodes)⟩) (es := (namesM s.nodes).map sPV) rfl rfl hrl (rA_pv _ _)
      | k + 1 => simp at h5
    clear hK K
    refine walkG ?_
    refine ⟨by first | exact .inr rfl | exact .inl rfl, ?_⟩; rw [Tryz.results53]; simp only [resOk, resV, go_sem, Int.reduceBEq, Int.reduceLE, Int.reduceLT, Int.reduceNeg, Nat.reduceAdd, Nat.reduceEqDiff, Nat.reduceLT, Nat.reduceLeDiff, Nat.reduceMul, Nat.reduceSub, reduceCtorEq, ↓reduceIte]
    exact .c _
end

inductive VT where
  | mk (k : Int) (n : Int) (b : Int) (s : List UInt8) (xs : List VT) (ks : List (List UInt8))
mutual
def VT.cells : VT → List PV
  | .mk k n b s xs ks => [.v (.int .i64 k), .v (.int .i64 n), .v (.int .u64 b), .sl 1 (bytePV s), .sl 6 (VT.cellsL xs), .sl 1 (ks.map sPV)]
def VT.cellsL : List VT → List (List PV)
  | [] => []
  | x :: xs => x.cells :: VT.cellsL xs
end
theorem vcellsL_map : ∀ (xs : List VT), VT.cellsL xs = xs.map VT.cells
  | [] => by simp [VT.cellsL]
  | x :: xs => by simp [VT.cellsL, vcellsL_map xs]
def VT.av (v : VT) : AV := .agg (v.cells.map .c)
theorem VT.av_eq (v : VT) : v.av = .agg (v.cells.map .c) := rfl
theorem vcells_mk (k n b : Int) (s : List UInt8) (xs : List VT) (ks : List (List UInt8)) : (VT.mk k n b s xs ks).cells = [.v (.int .i64 k), .v (.int .i64 n), .v (.int .u64 b), .sl 1 (bytePV s), .sl 6 (xs.map VT.cells), .sl 1 (ks.map sPV)] := by simp [VT.cells, vcellsL_map]
theorem len_vcells (v : VT) : v.cells.length = 6 := by cases v; simp [VT.cells]
theorem take_vcells (v : VT) : v.cells.take 6 = v.cells := List.take_of_length_le (by rw [len_vcells]; exact Nat.le_refl _)
theorem take_vcellsC (v : VT) : (v.cells.map AV.c).take 6 = v.cells.map .c := List.take_of_length_le (by rw [List.length_map, len_vcells]; exact Nat.le_refl _)
theorem bytePV_len (l : List UInt8) : (bytePV l).length = l.length := by simp [bytePV]
mutual
def VT.sm (N : Nat) : VT → Prop
  | .mk k n b s xs ks => (0 ≤ b ∧ b < 18446744073709551616) ∧ s.length ≤ N ∧ ks.length ≤ N ∧ (∀ y ∈ ks, y.length ≤ N) ∧ xs.length ≤ N ∧ VT.smL N xs
def VT.smL (N : Nat) : List VT → Prop
  | [] => True
  | x :: xs => x.sm N ∧ VT.smL N xs
end
theorem vsmL_mem {N : Nat} : ∀ {xs : List VT}, VT.smL N xs → ∀ x ∈ xs, x.sm N
  | x :: xs, h, y, hy => by
    rcases List.mem_cons.1 hy with rfl | hy
    · exact h.1
    · exact vsmL_mem h.2 y hy
mutual
theorem vsm_le {N M : Nat} (h : N ≤ M) : ∀ v : VT, v.sm N → v.sm M
  | .mk k n b s xs ks => fun ⟨h0, h1, h2, h3, h4, h5⟩ => ⟨h0, by omega, by omega, fun y hy => Nat.le_trans (h3 y hy) h, by omega, vsmL_le h xs h5⟩
theorem vsmL_le {N M : Nat} (h : N ≤ M) : ∀ xs : List VT, VT.smL N xs → VT.smL M xs
  | [] => fun _ => trivial
  | x :: xs => fun ⟨h1, h2⟩ => ⟨vsm_le h x h1, vsmL_le h xs h2⟩
end
mutual
def VT.inr : VT → Prop
  | .mk k n b s xs ks => (0 ≤ b ∧ b < 18446744073709551616) ∧ VT.inrL xs
def VT.inrL : List VT → Prop
  | [] => True
  | x :: xs => x.inr ∧ VT.inrL xs
end
theorem vinrL_of : ∀ {xs : List VT}, (∀ x ∈ xs, x.inr) → VT.inrL xs
  | [], _ => trivial
  | x :: xs, h => ⟨h x (by simp), vinrL_of fun y hy => h y (by simp [hy])⟩
/-! Which values are ones of a node. -/
def VT.kind : VT → Int | .mk k _ _ _ _ _ => k
def VT.int : VT → Int | .mk _ n _ _ _ _ => n
def VT.items : VT → List VT | .mk _ _ _ _ xs _ => xs
def vbare (k n b : Int) (s : List UInt8) (m : Nat) (ks : List (List UInt8)) : Bool :=
  ((k == 2 || k == 3 || k == 4 || k == 10 || k == 13) || n == 0) && (((k == 5 || k == 6) || b == 0) && (((k == 7 || k == 8 || k == 14) || s.isEmpty) && (((k == 9 || k == 11 || k == 12 || k == 13) || m == 0) && (k == 12 || ks.isEmpty))))
def keyM (y : List UInt8) : Bool := decide (y.length ≤ 20000) && isRight y
def headM (nd : NT) (k n b : Int) (s : List UInt8) (m : Nat) (ks : List (List UInt8)) : Bool :=
  (k == nd.kind && (vbare k n b s m ks && decide (s.length ≤ 20000))) && (
    if k = 2 then n == 0 || n == 1 else if k = 3 then decide (-2147483648 ≤ n) && decide (n ≤ 2147483647) else if k = 5 then decide (b < 4294967296) else if k = 8 then isRight s
    else if k = 14 then (s.length : Int) == nd.size else if k = 10 then decide (0 ≤ n) && decide (n < (nd.symbols.length : Int)) else if k = 9 then m == nd.fields.length && decide (m ≤ 300)
    else if k = 12 then (ks.length == m && ks.all keyM) && decide (m ≤ 300) else if k = 11 then decide (m ≤ 300) else if k = 13 then decide (0 ≤ n) && (decide (n < (nd.branches.length : Int)) && m == 1) else true)
def typeAt (nd : NT) (i : Nat) : Int := match nd.fields[i]? with | some f => f.type | none => -1
def branchAt (nd : NT) (i : Int) : Int := match nd.branches[i.toNat]? with | some k => k | none => -1
def itemAt (nd : NT) (n : Int) (i : Nat) : Int := if nd.kind = 9 then typeAt nd i else if nd.kind = 13 then branchAt nd n else nd.items
mutual
def isM (ns : List NT) : Int → VT → Bool
  | a, .mk k n b s xs ks => match ns[a.toNat]? with | none => false | some nd => headM nd k n b s xs.length ks && eachM ns (itemAt nd n) xs
def eachM (ns : List NT) : (Nat → Int) → List VT → Bool
  | _, [] => true
  | f, x :: xs => isM ns (f 0) x && eachM ns (fun i => f (i + 1)) xs
end
theorem eachM_iff (ns : List NT) : ∀ (f : Nat → Int) (xs : List VT), eachM ns f xs = true ↔ ∀ (i : Nat) (x : VT), xs[i]? = some x → isM ns (f i) x = true
  | f, [] => by simp [eachM]
  | f, x :: xs => by
    rw [eachM, Bool.and_eq_true, eachM_iff ns _ xs]
    constructor
    · rintro ⟨h1, h2⟩ i y hy
      match i with
      | 0 => obtain rfl := Option.some.inj hy; exact h1
      | i + 1 => exact h2 i y hy
    · intro h
      exact ⟨h 0 x rfl, fun i y hy => h (i + 1) y hy⟩
theorem eachM_false {ns : List NT} {f : Nat → Int} {xs : List VT} {i : Nat} {x : VT} (h : xs[i]? = some x) (hx : isM ns (f i) x = false) : eachM ns f xs = false := by
  cases he : eachM ns f xs with
  | false => rfl
  | true =>
    have := (eachM_iff ns f xs).1 he i x h
    rw [hx] at this
    simp at this
theorem isM_eq {ns : List NT} {a : Int} {nd : NT} (h : ns[a.toNat]? = some nd) (k n b : Int) (s : List UInt8) (xs : List VT) (ks : List (List UInt8)) : isM ns a (.mk k n b s xs ks) = (headM nd k n b s xs.length ks && eachM ns (itemAt nd n) xs) := by rw [isM, h]
noncomputable def conM (s : ST) (a : Int) (v : VT) (right : Bool) : Bool := decide (0 ≤ a) && (decide (a < (s.nodes.length : Int)) && (right && isM s.nodes a v))
mutual
def vdeep : VT → Nat
  | .mk k n b s xs ks => if k = 9 ∨ k = 11 ∨ k = 12 ∨ k = 13 then vdeeps 1 xs else 0
def vdeeps : Nat → List VT → Nat
  | n, [] => n
  | n, x :: xs => vdeeps (max n (1 + vdeep x)) xs
end
theorem vdeeps_snoc : ∀ (xs : List VT) (x : VT) (n : Nat), vdeeps n (xs ++ [x]) = max (vdeeps n xs) (1 + vdeep x)
  | [], x, n => by simp [vdeeps]
  | y :: xs, x, n => by simp only [List.cons_append, vdeeps]; exact vdeeps_snoc xs x _
theorem vdeeps_le : ∀ (xs : List VT) (n : Nat), n ≤ vdeeps n xs ∧ ∀ x ∈ xs, vdeep x + 1 ≤ vdeeps n xs
  | [], n => ⟨Nat.le_refl _, by simp⟩
  | y :: xs, n => by
    obtain ⟨h1, h2⟩ := vdeeps_le xs (max n (1 + vdeep y))
    simp only [vdeeps]
    refine ⟨by omega, fun x hx => ?_⟩
    rcases List.mem_cons.1 hx with rfl | hx
    · omega
    · exact h2 x hx
end Go.Proofs.YtmooihlndkgdaaaGreatDoor
