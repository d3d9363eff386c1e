/- Texts that lead to the law ShowTells, joined. -/
import Derived.Test.YtepneflbhpidbaaGreatDoorPkShowTellsE
import Derived.Test.YtepneflbhpidbaaGreatDoorPkShowTellsC
import Derived.Test.YtepneflbhpidbaaGreatDoorPkShowTellsD
import Derived.Test.YtepneflbhpidbaaGreatDoorPkShowTellsA
import Derived.Test.YtepneflbhpidbaaGreatDoorPkShowTellsB
import Derived.Test.YtepneflbhpidbaaGreatDoorRows
import Derived.MakeChecks
import Derived.LaidMore
import Derived.OpenShut
namespace Go.Proofs.YtepneflbhpidbaaGreatDoor
set_option maxRecDepth 100000
set_option maxHeartbeats 6400000
open Go.RowKit
set_option linter.unusedVariables false
set_option linter.unusedSimpArgs false
section
attribute [local go_sem] opx opE ev okx gcond bnd okO AV.get AV.okb cAV upd_at putd_some putd_none wrs_nil wrs_cons look_nil look_cons st argT_at bpick_and bpick_or bpick_true bpick_false binV binI binS binVOk binOk isShift binSOk unV unVOk loadV loadP cellsA zeroA Blkd.len setE grown moreA moreR moreOk eqRes pv fillA fillE putSeg AV.cellish AV.pureL AV.pureB lentL_is ex_some AV.ren AV.renL renL_c Blkd.ren rho wrM renN lentOk rhoE keepM endOk tyA_2 tyA_3 tyA_4 tyA_5 tyA_6 tyA_7 tyA_8 tyA_9 tyA_10 tyA_11 tyA_12 tyA_13 tyA_14 tyA_15 tyA_16 tyA_17 tyA_18 tyA_19 tyA_21 tyA_22 tyA_23 tyA_24 tyA_29 tyA_30 tyA_31 tyA_32 tyA_33 tyA_34 tyA_35 tyA_36 tyA_37 tyA_38 tyA_39 tyA_40 tyA_41 tyA_42 tyA_43 tyA_48 tyA_72 tyA_76 tyA_85 tyA_86 tyA_87 tyA_88 tyA_97 tyA_100 tyA_101 tyA_102 tyA_103 tyA_104 tyA_105 tyA_106 tyA_128 tyA_137 tyA_138 tyA_139 tyA_140 tyA_141 tyA_142 tyA_147 tyA_148 tyA_149 tyA_167 tyA_168 tyA_169 tyA_170 tyA_172 tyA_176 tyA_177 tyA_178 tyA_186 tyA_196 tyA_231 tyA_232 tyA_233 tyA_257 tyA_262 tyA_268 tyA_270 tyA_272 tyA_281 tyA_285 tyA_287 tyA_290 tyA_291 tyA_292 tyA_293 tyA_294 tyA_295 tyA_296 tyA_298 tyA_299 Option.map_some Option.map_none Option.getD_some Option.getD_none Option.bind_some Option.bind_none List.getElem?_cons_zero List.getElem?_cons_succ List.getElem?_nil List.getElem?_toArray List.length_cons List.length_nil List.length_map List.forall_mem_map List.map_cons List.map_nil List.drop_zero List.drop_succ_cons List.drop_nil List.take_zero List.take_succ_cons List.take_nil List.mem_cons List.not_mem_nil or_false forall_eq_or_imp forall_eq List.set_cons_zero List.set_cons_succ List.cons_append List.nil_append List.append_nil List.foldl_cons List.foldl_nil List.replicate_succ List.replicate_zero List.all_cons List.all_nil if_true if_false Bool.false_eq_true ne_eq not_false_eq_true not_true_eq_false true_and and_true and_self true_implies imp_self implies_true forall_const beq_self_eq_true Bool.and_true Bool.true_and Bool.and_false Bool.false_and Bool.or_true Bool.true_or Bool.or_false Bool.false_or Bool.not_true Bool.not_false Bool.not_eq_eq_eq_not intKindOf Value.oneCell' Int.toNat_natCast beq_true beq_false Bool.not_eq_true false_implies false_or true_or or_true Nat.zero_add Nat.add_zero decide_true decide_false Int.cast_ofNat_Int Int.toNat_zero Int.toNat_one eq_self

def partN (n : NT) : NT := ⟨n.kind, if namedK n.kind = true then n.name else [], if namedK n.kind = true then n.aliases else [], if n.kind = 9 then n.fields else [], if n.kind = 10 then n.symbols else [], if n.kind = 10 then n.has else false,
 if n.kind = 10 then n.dflt else [], if n.kind = 14 then n.size else 0, if n.kind = 11 ∨ n.kind = 12 then n.items else 0, if n.kind = 13 then n.branches else []⟩
theorem bareM_part (n : NT) : bareM n = ceq n (partN n) := by
 obtain ⟨k, a, b, c, d, e, f, g, h, i⟩ := n
 rw [Bool.eq_iff_iff, ceq_iff, partN, NT.mk.injEq, bareM]
 simp only [Bool.and_eq_true, Bool.or_eq_true, List.isEmpty_iff, beq_iff_eq, Bool.not_eq_true', true_and]
 constructor
 · rintro ⟨h1, h2, h3, h4, h5, h6⟩
   refine ⟨?_, ?_, ?_, ?_, ?_, ?_, ?_, ?_, ?_⟩
   · split
     · rfl
     · rename_i hn
       rcases h1 with h1 | h1
       · exact absurd h1 hn
       · exact h1.1
   · split
     · rfl
     · rename_i hn
       rcases h1 with h1 | h1
       · exact absurd h1 hn
       · exact h1.2
   · split
     · rfl
     · rename_i hn
       rcases h2 with h2 | h2
       · exact absurd h2 hn
       · exact h2
   · split
     · rfl
     · rename_i hn
       rcases h3 with h3 | h3
       · exact absurd h3 hn
       · exact h3.1
   · split
     · rfl
     · rename_i hn
       rcases h3 with h3 | h3
       · exact absurd h3 hn
       · exact h3.2.1
   · split
     · rfl
     · rename_i hn
       rcases h3 with h3 | h3
       · exact absurd h3 hn
       · exact h3.2.2
   · split
     · rfl
     · rename_i hn
       rcases h4 with h4 | h4
       · exact absurd h4 hn
       · exact h4
   · split
     · rfl
     · rename_i hn
       rcases h5 with (h5 | h5) | h5
       · exact absurd (.inl h5) hn
       · exact absurd (.inr h5) hn
       · exact h5
   · split
     · rfl
     · rename_i hn
       rcases h6 with h6 | h6
       · exact absurd h6 hn
       · exact h6
 · rintro ⟨h1, h2, h3, h4, h5, h6, h7, h8, h9⟩
   refine ⟨?_, ?_, ?_, ?_, ?_, ?_⟩
   · by_cases hn : namedK k = true
     · exact .inl hn
     · rw [if_neg hn] at h1 h2
       exact .inr ⟨h1, h2⟩
   · by_cases hn : k = 9
     · exact .inl hn
     · rw [if_neg hn] at h3
       exact .inr h3
   · by_cases hn : k = 10
     · exact .inl hn
     · rw [if_neg hn] at h4 h5 h6
       exact .inr ⟨h4, h5, h6⟩
   · by_cases hn : k = 14
     · exact .inl hn
     · rw [if_neg hn] at h7
       exact .inr h7
   · by_cases hn : k = 11 ∨ k = 12
     · rcases hn with hn | hn
       · exact .inl (.inl hn)
       · exact .inl (.inr hn)
     · rw [if_neg hn] at h8
       exact .inr h8
   · by_cases hn : k = 13
     · exact .inl hn
     · rw [if_neg hn] at h9
       exact .inr h9
theorem branchesM_snoc {ns : List NT} : ∀ (l d : List Int) (k : Int), branchesM ns d (l ++ [k]) = (branchesM ns d l && branchM ns (d ++ l) k)
 | [], d, k => by simp [branchesM]
 | x :: l, d, k => by
   rw [List.cons_append, branchesM, branchesM, branchesM_snoc l (d ++ [x]) k, Bool.and_assoc, List.append_assoc]
   rfl
theorem rsame10_told (a b : NT) : Told Tryz.prog 148 [a.av, b.av] (.c (.v (.bool (ceq a b)))) := by
 have hO := rone_told a b
 obtain ⟨V, hV⟩ : ∃ V, V = ceq a b := ⟨_, rfl⟩
 rw [← hV] at hO ⊢
 simp only [NT.av_eq] at hO
 rw [NT.av_eq, NT.av_eq]
 refine VC.toldP ent_148 Tryz.func148 rfl Tryz.ntmps148 fun hb => ?_
 clear hb
 refine walkGF (And.intro @len_ncells (And.intro @take_ncells @take_ncellsC)) ?_
 refine walkCF (@pureL_c) (hO) ?_
 refine walkG ?_
 refine retX Tryz.results148 ?_
 exact .c _
def okN (n : NT) : Bool := !namedK n.kind || (fullM n.name && (kindM n.name == 0 && allM fullM n.aliases))
theorem rnode_told (s : ST) (n : NT) (hsm : n.sm 1000000) (hbr : n.kind = 13 → ∀ k ∈ n.branches, 0 ≤ k ∧ k < (s.nodes.length : Int)) (hdp : ∀ f ∈ n.fields, tdeep f.dflt ≤ 1000) : Told Tryz.prog 90 [s.av, n.av] (.c (.v (.bool (nodeM s.nodes n)))) := by
 obtain ⟨V, hV⟩ : ∃ V, V = nodeM s.nodes n := ⟨_, rfl⟩
 rw [← hV]
 unfold nodeM at hV
 obtain ⟨hn1, hn2, ⟨ha1, ha2⟩, ⟨hs1, hs2⟩, hb1, hf1, hf2⟩ := hsm
 have hN := rnamed10_told n.kind
 have hF := rfull_told n.name (by omega)
 have hKd := rkind_told n.name
 have hSame := rsame10_told n (partN n)
 rw [← bareM_part] at hSame
 have hpart : partN n = partN n := rfl
 obtain ⟨bB, hBB⟩ : ∃ b, b = bareM n := ⟨_, rfl⟩
 rw [← hBB] at hV hSame
 obtain ⟨X, hX⟩ : ∃ X, X = okN n := ⟨_, rfl⟩
 have hX0 := hX
 unfold okN at hX0
 rw [← hX0] at hV
 obtain ⟨bF, hFF⟩ : ∃ b, b = fullM n.name := ⟨_, rfl⟩
 obtain ⟨kK, hKK⟩ : ∃ b, b = kindM n.name := ⟨_, rfl⟩
 rw [← hFF] at hX0 hF
 rw [← hKK] at hX0 hKd
 rw [NT.av_eq, ncells_mk, ST.av_eq, scells_mk]
 simp only [NT.av_eq] at hSame
 refine VC.toldP ent_90 Tryz.func90 rfl Tryz.ntmps90 fun hb => ?_
 clear hb
 (refine VC.seq ?_; (first | refine VC.region (by rfl) (by rfl) ?_ | refine VC.draw mixP (by rfl) (by rfl) ?_); (repeat (refine AO.step fun K hK => ?_; simp only [go_sem, Int.reduceBEq, Int.reduceLE, Int.reduceLT, Int.reduceNeg, Nat.reduceAdd, Nat.reduceEqDiff, Nat.reduceLT, Nat.reduceLeDiff, Nat.reduceMul, Nat.reduceSub, reduceCtorEq, ↓reduceIte]; (first | refine gsel_skip ?_ | refine gsel_go ?_ | skip); (first | refine hK _ _ _ ?_ | refine ⟨by first | omega | exact ⟨_, rfl, rfl⟩ | exact fun _ => ⟨_, rfl, rfl⟩ | (intro h; simp only [h, true_and]; omega) | (clear hK; intro h; simp_all <;> omega), hK _ _ _ ?_⟩); clear hK K)); refine AO.nil ?_; first | refine SQ.normal ?_ | refine ⟨okd_of (by kernel_rfl), SQ.normal ?_⟩)
 (refine VC.seq ?_; (first | refine VC.region (by rfl) (by rfl) ?_ | refine VC.draw mixP (by rfl) (by rfl) ?_); (repeat (refine AO.step fun K hK => ?_; simp only [go_sem, Int.reduceBEq, Int.reduceLE, Int.reduceLT, Int.reduceNeg, Nat.reduceAdd, Nat.reduceEqDiff, Nat.reduceLT, Nat.reduceLeDiff, Nat.reduceMul, Nat.reduceSub, reduceCtorEq, ↓reduceIte]; (first | refine gsel_skip ?_ | refine gsel_go ?_ | skip); (first | refine hK _ _ _ ?_ | refine ⟨by first | omega | exact ⟨_, rfl, rfl⟩ | exact fun _ => ⟨_, rfl, rfl⟩ | (intro h; simp only [h, true_and]; omega) | (clear hK; intro h; simp_all <;> omega), hK _ _ _ ?_⟩); clear hK K)); refine AO.nil ?_; first | refine SQ.normal ?_ | refine ⟨okd_of (by kernel_rfl), SQ.normal ?_⟩)
 refine VC.frz [] [(2, .ref 0 1 0 0), (3, .ref 8 1 0 0), (5, .ref 48 1 0 0)] [(0, ⟨false, 24, 2, [s.cells.map .c]⟩), (8, ⟨false, 33, 10, [n.cells.map .c]⟩), (48, ⟨false, 33, 10, [(⟨n.kind, [], [], [], [], false, [], 0, 0, []⟩ : NT).cells.map .c]⟩)] 400 ?_ ?_
 · simp only [ncells_mk, scells_mk, WeakF, used_is, sc_any, sc_c, sc_pp, sc_ref, sc_row, sc_agg, sc_fn, ScL, some_imp, List.forall_mem_map, go_sem, Int.reduceBEq, Int.reduceLE, Int.reduceLT, Int.reduceNeg, Nat.reduceAdd, Nat.reduceEqDiff, Nat.reduceLT, Nat.reduceLeDiff, Nat.reduceMul, Nat.reduceSub, reduceCtorEq, ↓reduceIte]
   exact ⟨⟨.same _, .same _, .same _⟩, .same _, .same _, .one (.cons (.same _) (.cons (.same _) (.cons (.nil 1) (.cons (.nil 9) (.cons (.nil 1) (.cons (.same _) (.cons (.same _) (.cons (.same _) (.cons (.same _) (.cons (.nil 1) .nil)))))))))) (by simp [AV.cellish])⟩
 refine walkGF (And.intro @ncells_mk @scells_mk) ?_
 refine walkC (hN) ?_
 refine walkG ?_
 refine VC.meetF (ι := {u : Unit // X = true}) (fun _ => [(2, .ref 0 1 0 0), (3, .ref 8 1 0 0), (5, .ref 48 1 0 0)]) (fun _ => [(0, ⟨false, 24, 2, [s.cells.map .c]⟩), (8, ⟨false, 33, 10, [n.cells.map .c]⟩), (48, ⟨false, 33, 10, [(⟨n.kind, (partN n).name, (partN n).aliases, [], [], false, [], 0, 0, []⟩ : NT).cells.map .c]⟩)]) 4000 ?_ ?_
 · refine VC.cond (by rfl) (by trivial) (fun hc => ?_) (fun hc => ?_)
   · have hpn : (partN n).name = n.name := by simp [partN, hc]
     have hpa : (partN n).aliases = n.aliases := by simp [partN, hc]
     rw [hc, Bool.not_true, Bool.false_or] at hX0
     refine walkGF (And.intro @ncells_mk @scells_mk) ?_
     refine walkC (hF) ?_
     refine walkGF (@ncells_mk) ?_
     refine walkD (hKd) ?_
     refine walkGF (@ncells_mk) ?_
     refine VC.cond (by rfl) (by trivial) (fun hc2 => ?_) (fun hc2 => ?_)
     · have hf : V = false := by
        have : X = false := by
         rw [hX0, allM]
         cases bF with
         | false => rfl
         | true =>
           cases hk0 : kK == 0 with
           | false => simp
           | true =>
             have hk1 : kK = 0 := by simpa using hk0
             have hl : ¬ n.aliases.length ≤ 40 := by
              simp [hk1] at hc2
              omega
             simp [hl]
        rw [hV, this]
        simp
       subst hf
       refine walkG ?_
       refine retX Tryz.results90 ?_
       exact .c _
     · obtain ⟨hbf, hk0, hl40⟩ : bF = true ∧ kK = 0 ∧ n.aliases.length ≤ 40 := by
        cases bF <;> simp at hc2 ⊢
        omega
       have hXa : X = n.aliases.all fullM := by
        rw [hX0, allM, hbf, hk0]
        simp [hl40]
       refine walkG ?_
       refine VC.loop (ι := {i : Nat // i ≤ n.aliases.length ∧ ∀ (j : Nat) (x : List UInt8), j < i → n.aliases[j]? = some x → fullM x = true}) (fun q => [(2, .ref 0 1 0 0), (3, .ref 8 1 0 0), (5, .ref 48 1 0 0), (6, .c (.v (.int .i64 (q.1 : Int))))])
        (fun _ => [(0, ⟨false, 24, 2, [s.cells.map .c]⟩), (8, ⟨false, 33, 10, [n.cells.map .c]⟩), (48, ⟨false, 33, 10, [(⟨n.kind, n.name, n.aliases, [], [], false, [], 0, 0, []⟩ : NT).cells.map .c]⟩)]) 2000 (fun q => n.aliases.length - q.1) ⟨0, Nat.zero_le _, fun j x h => by omega⟩ ?_ ?_
       · exact weakZF (And.intro @ncells_mk @scells_mk)
       rintro ⟨i, hi, ht⟩
       simp only []
       refine walkGF (@ncells_mk) ?_
       refine VC.cond (by rfl) (by trivial) (fun hc3 => ?_) (fun hc3 => ?_)
       · have hlt : i < n.aliases.length := by simp at hc3; omega
         obtain ⟨x, hx⟩ : ∃ x, n.aliases[i]? = some x := ⟨n.aliases[i], List.getElem?_eq_getElem hlt⟩
         have hw : IntKind.i64.wrap ((i : Int) + 1) = (i : Int) + 1 := wrap64_id (by omega) (by omega)
         have hxp : (n.aliases.map sPV)[i]? = some (sPV x) := by rw [List.getElem?_map, hx]; rfl
         have hFx := rfull_told x (by have := ha2 x (List.mem_of_getElem? hx); omega)
         refine walkGF (And.intro @ncells_mk (And.intro hxp @sPV_eq)) ?_
         refine walkC (hFx) ?_
         refine walkG ?_
         refine VC.cond (by rfl) (by trivial) (fun hc4 => ?_) (fun hc4 => ?_)
         · have hf : V = false := by
            have : X = false := by
             rw [hXa, List.all_eq_false]
             exact ⟨x, List.mem_of_getElem? hx, by simpa using hc4⟩
            rw [hV, this]
            simp
           subst hf
           refine walkG ?_
           refine retX Tryz.results90 ?_
           exact .c _
         · have hfx : fullM x = true := by simpa using hc4
           refine walkGF (hw) ?_
           refine .next ⟨i + 1, by omega, ?_⟩ ?_ (by simp only []; omega)
           · intro j y hj hy
             by_cases hji : j < i
             · exact ht j y hji hy
             · obtain rfl : j = i := by omega
               rw [hx] at hy
               obtain rfl := Option.some.inj hy
               exact hfx
           refine weakXF (And.intro @ncells_mk @scells_mk) ?_
           exact cI (by omega)
       · have hie : i = n.aliases.length := by simp at hc3; omega
         have hXt : X = true := by
          rw [hXa, List.all_eq_true]
          intro y hy
          obtain ⟨j, hj⟩ := List.getElem?_of_mem hy
          exact ht j y (by have := (List.getElem?_eq_some_iff.1 hj).1; omega) hj
         refine walkG ?_
         refine .normal ⟨(), hXt⟩ ?_
         exact weakZF (And.intro @ncells_mk (And.intro @scells_mk (And.intro hpn hpa)))
   · have hpn : (partN n).name = [] := by simp [partN, hc]
     have hpa : (partN n).aliases = [] := by simp [partN, hc]
     refine walkG ?_
     refine .normal ⟨(), by rw [hX0, hc]; rfl⟩ ?_
     exact weakZF (And.intro @ncells_mk (And.intro @scells_mk (And.intro hpn hpa)))
 rintro ⟨_, hXt⟩
 rw [hXt, Bool.true_and] at hV
 clear hX hX0 hXt hN hF hKd hFF hKK ha2
 (refine VC.seq ?_; (first | refine VC.region (by rfl) (by rfl) ?_ | refine VC.draw mixP (by rfl) (by rfl) ?_); (repeat (refine AO.step fun K hK => ?_; simp only [ncells_mk, go_sem, Int.reduceBEq, Int.reduceLE, Int.reduceLT, Int.reduceNeg, Nat.reduceAdd, Nat.reduceEqDiff, Nat.reduceLT, Nat.reduceLeDiff, Nat.reduceMul, Nat.reduceSub, reduceCtorEq, ↓reduceIte]; (first | refine gsel_skip ?_ | refine gsel_go ?_ | skip); (first | refine hK _ _ _ ?_ | refine ⟨by first | omega | exact ⟨_, rfl, rfl⟩ | exact fun _ => ⟨_, rfl, rfl⟩ | (intro h; simp only [ncells_mk, h, true_and]; omega) | (clear hK; intro h; simp_all <;> omega), hK _ _ _ ?_⟩); clear hK K)); refine AO.nil ?_; first | refine SQ.normal ?_ | refine ⟨okd_of (by kernel_rfl), SQ.normal ?_⟩)
 refine VC.seq ?_
 refine VC.meetF (ι := {ok : Bool // V = (ok && bB)}) (fun q => [(2, .ref 0 1 0 0), (3, .ref 8 1 0 0), (5, .ref 48 1 0 0), (7, .c (.v (.bool q.1)))]) (fun _ => [(0, ⟨false, 24, 2, [s.cells.map .c]⟩), (8, ⟨false, 33, 10, [n.cells.map .c]⟩), (48, ⟨false, 33, 10, [(partN n).cells.map .c]⟩)]) 8000 ?_ ?_
 rotate_left
 · rintro ⟨ok, hok⟩
   simp only []
   simp only [ncells_mk, List.map_cons, List.map_nil] at hSame
   refine walkGF (And.intro @ncells_mk @scells_mk) ?_
   refine walkD (hSame) ?_
   refine walkG ?_
   refine retX Tryz.results90 ?_
   rw [hok]
   exact .c _
 by_cases h9 : n.kind = 9
 · rw [h9] at hV
   have e9 : (n.kind == 9) = true := by simpa using h9
   have o1 : decide (n.kind ≥ 1) = true := by rw [h9]; rfl
   have o2 : decide (n.kind ≤ 14) = true := by rw [h9]; rfl
   have hV9 : V = (fieldsM n.fields && bB) := by rw [hV]; simp [Bool.and_comm]
   clear hV
   have pk : (partN n).kind = n.kind := rfl
   have pf : (partN n).fields = n.fields := by simp [partN, h9]
   have ps : (partN n).symbols = [] := by simp [partN, h9]
   have ph : (partN n).has = false := by simp [partN, h9]
   have pd : (partN n).dflt = [] := by simp [partN, h9]
   have pz : (partN n).size = 0 := by simp [partN, h9]
   have pi : (partN n).items = 0 := by simp [partN, h9]
   have pb : (partN n).branches = [] := by simp [partN, h9]
   refine walkBF (And.intro @ncells_mk e9) ?_
   refine VC.nil 8 9 1 (by rfl) (by trivial) (by rfl) ?_
   refine VC.loop (ι := {i : Nat // i ≤ n.fields.length}) (fun q => [(2, .ref 0 1 0 0), (3, .ref 8 1 0 0), (5, .ref 48 1 0 0), (7, .c (.v (.bool ((n.fields.take q.1).all fieldM)))), (8, .row 4152 q.1), (9, .c (.v (.int .i64 (q.1 : Int))))])
    (fun q => [(0, ⟨false, 24, 2, [s.cells.map .c]⟩), (8, ⟨false, 33, 10, [n.cells.map .c]⟩), (48, ⟨false, 33, 10, [(partN n).cells.map .c]⟩), (4152, ⟨true, 9, 1, rA sPV ((n.fields.map (·.name)).take q.1)⟩)]) 5000 (fun q => n.fields.length - q.1) ⟨0, Nat.zero_le _⟩ ?_ ?_
   · exact weakZF (And.intro @ncells_mk (And.intro @scells_mk (And.intro @rA_len (And.intro @rA_sc (And.intro @rA_nil (And.intro o1 (And.intro o2 (And.intro pk (And.intro pf (And.intro ps (And.intro ph (And.intro pd (And.intro pz (And.intro pi pb))))))))))))))
   rintro ⟨i, hi⟩
   simp only []
   refine walkGF (And.intro @ncells_mk @scells_mk) ?_
   refine VC.cond (by rfl) (by trivial) (fun hc => ?_) (fun hc => ?_)
   · have hlt : i < n.fields.length := by simp at hc; omega
     obtain ⟨f, hx⟩ : ∃ f, n.fields[i]? = some f := ⟨n.fields[i], List.getElem?_eq_getElem hlt⟩
     have hw : IntKind.i64.wrap ((i : Int) + 1) = (i : Int) + 1 := wrap64_id (by omega) (by omega)
     have hxp : (n.fields.map FT.cells)[i]? = some f.cells := by rw [List.getElem?_map, hx]; rfl
     have hln : (rA sPV ((n.fields.map (·.name)).take i)).length = i := by rw [rA_len]; simp; omega
     have hr : rA sPV ((n.fields.map (·.name)).take i) ++ [[.c (.v (.string (str f.name)))]] = rA sPV ((n.fields.map (·.name)).take (i + 1)) := by
      rw [List.take_add_one, List.getElem?_map, hx]
      exact rA_one sPV _ f.name
     have hl2 : (rA sPV ((n.fields.map (·.name)).take (i + 1))).length = i + 1 := by rw [rA_len]; simp; omega
     obtain ⟨g1, g2, g3, g4⟩ := hf2 f (List.mem_of_getElem? hx)
     have hA := rsimples_told f.aliases (by omega) fun x hx => by have := g3 x hx; omega
     have hR := rright_told f.dflt (sm_le (by omega) _ g4) (hdp f (List.mem_of_getElem? hx))
     have hS := rsame_told _ f.dflt jzero (Nat.le_refl _)
     simp only [JT.av] at hR
     have hM : fieldM f = (allM simpleM f.aliases && ((f.has && jR f.dflt) || (!f.has && jeq f.dflt jzero))) := by
      unfold fieldM
      cases f.has <;> simp
     have hnx : (n.fields.take (i + 1)).all fieldM = ((n.fields.take i).all fieldM && fieldM f) := by
      rw [List.take_add_one, hx, List.all_append]
      simp
     obtain ⟨b0, hb0⟩ : ∃ b, b = (n.fields.take i).all fieldM := ⟨_, rfl⟩
     obtain ⟨b1, hb1⟩ : ∃ b, b = allM simpleM f.aliases := ⟨_, rfl⟩
     obtain ⟨b2, hb2⟩ : ∃ b, b = jR f.dflt := ⟨_, rfl⟩
     obtain ⟨b3, hb3⟩ : ∃ b, b = jeq f.dflt jzero := ⟨_, rfl⟩
     rw [hM, ← hb0, ← hb1, ← hb2, ← hb3] at hnx
     rw [← hb0]
     rw [← hb1] at hA
     rw [← hb2] at hR
     rw [← hb3] at hS
     clear hM hb0 hb1 hb2 hb3
     cases hfh : f.has with
     | true =>
       rw [hfh] at hnx
       replace hnx := Lib.hid hnx
       refine walkGF (And.intro @ncells_mk (And.intro @scells_mk (And.intro hxp (And.intro @fcells_mk (And.intro @len_cells (And.intro @take_cells (And.intro @take_cellsC (And.intro hln (And.intro hr hfh))))))))) ?_
       refine walkD (hA) ?_
       refine walkGF (And.intro @fcells_mk (And.intro @len_cells (And.intro @take_cells (And.intro @take_cellsC hfh)))) ?_
       refine walkDF (@pureL_c) (hR) ?_
       refine walkGF (And.intro hfh hw) ?_
       refine .next ⟨i + 1, by omega⟩ ?_ (by simp only []; omega)
       simp only [ncells_mk, scells_mk, hl2, rA_sc, hnx.out, Bool.and_assoc, Weak, eq_self, used_is, sc_any, sc_c, sc_pp, sc_ref, sc_row, sc_agg, sc_fn, ScL, some_imp, List.forall_mem_map, go_sem, Int.reduceBEq, Int.reduceLE, Int.reduceLT, Int.reduceNeg, Nat.reduceAdd, Nat.reduceEqDiff, Nat.reduceLT, Nat.reduceLeDiff, Nat.reduceMul, Nat.reduceSub, reduceCtorEq, ↓reduceIte]
       exact ⟨cI (by omega), Nat.le_refl _⟩
     | false =>
       rw [hfh] at hnx
       replace hnx := Lib.hid hnx
       refine walkGF (And.intro @ncells_mk (And.intro @scells_mk (And.intro hxp (And.intro @fcells_mk (And.intro @len_cells (And.intro @take_cells (And.intro @take_cellsC (And.intro hln (And.intro hr hfh))))))))) ?_
       refine walkD (hA) ?_
       refine walkGF (And.intro @fcells_mk (And.intro @len_cells (And.intro @take_cells (And.intro @take_cellsC hfh)))) ?_
       (refine AO.step fun K hK => ?_; simp only [go_sem, Int.reduceBEq, Int.reduceLE, Int.reduceLT, Int.reduceNeg, Nat.reduceAdd, Nat.reduceEqDiff, Nat.reduceLT, Nat.reduceLeDiff, Nat.reduceMul, Nat.reduceSub, reduceCtorEq, ↓reduceIte]; (first | refine gsel_go ?_ | skip))
       refine .inr (.inl ⟨.c (.v (.bool b3)), [f.dflt.av, jzero.av], [], fun hg => ⟨hg, by simp [AV.pureL, AV.pureB, JT.av, pureL_c], rfl, fun k x z h5 h6 => ?_, rfl, hS⟩, hK _ _ _ ?_⟩)
       · match k with
         | 0 => obtain rfl := Option.some.inj h5; obtain rfl := Option.some.inj h6; exact .same _
         | 1 => obtain rfl := Option.some.inj h5; obtain rfl := Option.some.inj h6; exact view_jzero _
         | k + 2 => simp at h5
       clear hK K
       refine walkGF (And.intro hfh hw) ?_
       refine .next ⟨i + 1, by omega⟩ ?_ (by simp only []; omega)
       simp only [ncells_mk, scells_mk, hl2, rA_sc, hnx.out, Bool.and_assoc, Weak, eq_self, used_is, sc_any, sc_c, sc_pp, sc_ref, sc_row, sc_agg, sc_fn, ScL, some_imp, List.forall_mem_map, go_sem, Int.reduceBEq, Int.reduceLE, Int.reduceLT, Int.reduceNeg, Nat.reduceAdd, Nat.reduceEqDiff, Nat.reduceLT, Nat.reduceLeDiff, Nat.reduceMul, Nat.reduceSub, reduceCtorEq, ↓reduceIte]
       exact ⟨cI (by omega), Nat.le_refl _⟩
   · have hie : i = n.fields.length := by simp at hc; omega
     have htk : (n.fields.map (·.name)).take i = n.fields.map (·.name) := List.take_of_length_le (by simp; omega)
     have htf : n.fields.take i = n.fields := List.take_of_length_le (by omega)
     rw [htk, htf]
     have hrl : (rA sPV (n.fields.map (·.name))).length = i := by rw [rA_len]; simp; omega
     have hA := rsimples_told (n.fields.map (·.name)) (by simp; omega) fun x hx => by
      obtain ⟨f, hf, rfl⟩ := List.mem_map.1 hx
      have := (hf2 f hf).1
      omega
     have hO := ronce_told (n.fields.map (·.name)) (by simp; omega)
     have hFi : fieldsM n.fields = ((n.fields.all fieldM && allM simpleM (n.fields.map (·.name))) && decide (n.fields.map (·.name)).Nodup) := by
      unfold fieldsM diffM allM
      simp [Bool.and_assoc]
     obtain ⟨b0, hb0⟩ : ∃ b, b = n.fields.all fieldM := ⟨_, rfl⟩
     obtain ⟨b1, hb1⟩ : ∃ b, b = allM simpleM (n.fields.map (·.name)) := ⟨_, rfl⟩
     obtain ⟨b2, hb2⟩ : ∃ b, b = decide (n.fields.map (·.name)).Nodup := ⟨_, rfl⟩
     rw [← hb0, ← hb1, ← hb2] at hFi
     rw [← hb0]
     rw [← hb1] at hA
     rw [← hb2] at hO
     clear hb0 hb1 hb2
     replace hFi := Lib.hid hFi
     refine walkGF (And.intro @ncells_mk (And.intro @scells_mk hrl)) ?_
     (refine AO.step fun K hK => ?_; simp only [go_sem, Int.reduceBEq, Int.reduceLE, Int.reduceLT, Int.reduceNeg, Nat.reduceAdd, Nat.reduceEqDiff, Nat.reduceLT, Nat.reduceLeDiff, Nat.reduceMul, Nat.reduceSub, reduceCtorEq, ↓reduceIte, hrl]; (first | refine gsel_go ?_ | skip))
     refine .inr (.inl ⟨.c (.v (.bool b1)), [.c (.sl 1 ((n.fields.map (·.name)).map sPV))], [4152], fun hg => ⟨hg, by simp [AV.pureL, AV.pureB], rfl, fun k x z h5 h6 => ?_, rfl, hA⟩, hK _ _ _ ?_⟩)
     · match k with
       | 0 =>
         obtain rfl := Option.some.inj h5
         obtain rfl := Option.some.inj h6
         exact View.row (B := ⟨true, 9, 1, rA sPV (n.fields.map fun f : FT => f.name)⟩) (es := (n.fields.map fun f : FT => f.name).map sPV) rfl rfl hrl (rA_pv _ _)
       | k + 1 => simp at h5
     clear hK K
     refine walkGF (hrl) ?_
     (refine AO.step fun K hK => ?_; simp only [go_sem, Int.reduceBEq, Int.reduceLE, Int.reduceLT, Int.reduceNeg, Nat.reduceAdd, Nat.reduceEqDiff, Nat.reduceLT, Nat.reduceLeDiff, Nat.reduceMul, Nat.reduceSub, reduceCtorEq, ↓reduceIte, hrl]; (first | refine gsel_go ?_ | skip))
     refine .inr (.inl ⟨.c (.v (.bool b2)), [.c (.sl 1 ((n.fields.map (·.name)).map sPV))], [4152], fun hg => ⟨hg, by simp [AV.pureL, AV.pureB], rfl, fun k x z h5 h6 => ?_, rfl, hO⟩, hK _ _ _ ?_⟩)
     · match k with
       | 0 =>
         obtain rfl := Option.some.inj h5
         obtain rfl := Option.some.inj h6
         exact View.row (B := ⟨true, 9, 1, rA sPV (n.fields.map fun f : FT => f.name)⟩) (es := (n.fields.map fun f : FT => f.name).map sPV) rfl rfl hrl (rA_pv _ _)
       | k + 1 => simp at h5
     clear hK K
     refine walkG ?_
     refine .normal ⟨(b0 && b1) && b2, by rw [hV9, hFi.out]⟩ ?_
     exact weakZF (And.intro @ncells_mk @scells_mk)
 by_cases h10 : n.kind = 10
 · rw [h10] at hV
   have e9 : (n.kind == 9) = false := by simpa using h9
   have e10 : (n.kind == 10) = true := by simpa using h10
   have o1 : decide (n.kind ≥ 1) = true := by rw [h10]; rfl
   have o2 : decide (n.kind ≤ 14) = true := by rw [h10]; rfl
   have hV10 : V = ((((n.has == n.symbols.contains n.dflt) && (n.has || n.dflt.isEmpty)) && (decide (1 ≤ n.symbols.length) && (decide (n.symbols.length ≤ 40) && diffM simpleM n.symbols))) && bB) := by rw [hV]; simp [Bool.and_comm]
   clear hV
   have pk : (partN n).kind = n.kind := rfl
   have pf : (partN n).fields = [] := by simp [partN, h10]
   have ps : (partN n).symbols = n.symbols := by simp [partN, h10]
   have ph : (partN n).has = n.has := by simp [partN, h10]
   have pd : (partN n).dflt = n.dflt := by simp [partN, h10]
   have pz : (partN n).size = 0 := by simp [partN, h10]
   have pi : (partN n).items = 0 := by simp [partN, h10]
   have pb : (partN n).branches = [] := by simp [partN, h10]
   have hE : (⟨#[]⟩ : ByteArray).toList = [] := str_toList []
   refine walkBF (And.intro @ncells_mk (And.intro e9 e10)) ?_
   refine VC.loop (ι := {i : Nat // i ≤ n.symbols.length}) (fun q => [(2, .ref 0 1 0 0), (3, .ref 8 1 0 0), (5, .ref 48 1 0 0), (7, .c (.v (.bool true))), (11, .c (.v (.bool ((n.symbols.take q.1).contains n.dflt)))), (12, .c (.v (.int .i64 (q.1 : Int))))])
    (fun q => [(0, ⟨false, 24, 2, [s.cells.map .c]⟩), (8, ⟨false, 33, 10, [n.cells.map .c]⟩), (48, ⟨false, 33, 10, [(partN n).cells.map .c]⟩)]) 5000 (fun q => n.symbols.length - q.1) ⟨0, Nat.zero_le _⟩ ?_ ?_
   · refine weakXF (And.intro @ncells_mk (And.intro @scells_mk (And.intro o1 (And.intro o2 (And.intro pk (And.intro pf (And.intro ps (And.intro ph (And.intro pd (And.intro pz (And.intro pi pb))))))))))) ?_
     simp
   rintro ⟨i, hi⟩
   simp only []
   refine walkGF (And.intro @ncells_mk @scells_mk) ?_
   refine VC.cond (by rfl) (by trivial) (fun hc => ?_) (fun hc => ?_)
   · have hlt : i < n.symbols.length := by simp at hc; omega
     obtain ⟨x, hx⟩ : ∃ x, n.symbols[i]? = some x := ⟨n.symbols[i], List.getElem?_eq_getElem hlt⟩
     have hw : IntKind.i64.wrap ((i : Int) + 1) = (i : Int) + 1 := wrap64_id (by omega) (by omega)
     have hxp : (n.symbols.map sPV)[i]? = some (sPV x) := by rw [List.getElem?_map, hx]; rfl
     have hnx : (n.symbols.take (i + 1)).contains n.dflt = ((n.symbols.take i).contains n.dflt || (x == n.dflt)) := by
      rw [List.take_add_one, hx, Bool.eq_iff_iff]
      simp
      exact ⟨fun h => h.imp id Eq.symm, fun h => h.imp id Eq.symm⟩
     obtain ⟨b0, hb0⟩ : ∃ b, b = (n.symbols.take i).contains n.dflt := ⟨_, rfl⟩
     rw [← hb0] at hnx ⊢
     clear hb0
     replace hnx := Lib.hid hnx
     refine walkGF (And.intro @ncells_mk (And.intro @scells_mk (And.intro hxp (And.intro @sPV_eq (And.intro @str_toList hw))))) ?_
     refine .next ⟨i + 1, by omega⟩ ?_ (by simp only []; omega)
     refine weakXF (And.intro @ncells_mk (And.intro @scells_mk hnx.out)) ?_
     exact cI (by omega)
   · have hie : i = n.symbols.length := by simp at hc; omega
     rw [show n.symbols.take i = n.symbols by rw [hie, List.take_length]]
     have hA := rsimples_told n.symbols (by omega) fun x hx => by have := hs2 x hx; omega
     have hO := ronce_told n.symbols (by omega)
     have hF : ((((n.has == n.symbols.contains n.dflt) && (n.has || n.dflt.isEmpty)) && (decide (1 ≤ n.symbols.length) && (decide (n.symbols.length ≤ 40) && diffM simpleM n.symbols)))) =
       (((decide ((n.symbols.length : Int) > 0) && allM simpleM n.symbols) && decide n.symbols.Nodup) && ((n.has && n.symbols.contains n.dflt) || (!n.has && (n.dflt == [])))) := by
      have e1 : decide ((n.symbols.length : Int) > 0) = decide (1 ≤ n.symbols.length) := decide_eq_decide.2 (by omega)
      have e2 : n.dflt.isEmpty = (n.dflt == []) := by cases n.dflt <;> rfl
      have e3 : n.symbols.all simpleM = true → (n.dflt == []) = true → n.symbols.contains n.dflt = false := fun ha hd => by
       rw [Bool.eq_false_iff]
       intro hm
       have h1 := List.all_eq_true.1 ha n.dflt (by simpa using hm)
       have h2 : n.dflt = [] := by simpa using hd
       rw [h2] at h1
       exact absurd h1 (by decide)
      rw [e1, e2, diffM, allM]
      generalize decide (1 ≤ n.symbols.length) = x1
      generalize decide (n.symbols.length ≤ 40) = x2
      generalize decide n.symbols.Nodup = x3
      generalize n.symbols.all simpleM = x4 at e3 ⊢
      generalize (n.dflt == []) = x5 at e3 ⊢
      generalize n.symbols.contains n.dflt = x6 at e3 ⊢
      cases x1 <;> cases x2 <;> cases x3 <;> cases x4 <;> cases x5 <;> cases x6 <;> cases n.has <;> simp at e3 ⊢
     obtain ⟨b0, hb0⟩ : ∃ b, b = n.symbols.contains n.dflt := ⟨_, rfl⟩
     obtain ⟨b1, hb1⟩ : ∃ b, b = allM simpleM n.symbols := ⟨_, rfl⟩
     obtain ⟨b2, hb2⟩ : ∃ b, b = decide n.symbols.Nodup := ⟨_, rfl⟩
     rw [hF, ← hb0, ← hb1, ← hb2] at hV10
     rw [← hb0]
     rw [← hb1] at hA
     rw [← hb2] at hO
     clear hb0 hb1 hb2 hF
     cases hnh : n.has with
     | true =>
       rw [hnh] at hV10
       replace hV10 := Lib.hid hV10
       refine walkGF (And.intro @ncells_mk @scells_mk) ?_
       refine walkD (hA) ?_
       refine walkGF (And.intro @ncells_mk @scells_mk) ?_
       refine walkD (hO) ?_
       refine walkGF (And.intro @ncells_mk (And.intro @scells_mk (And.intro @str_toList (And.intro hE hnh)))) ?_
       refine .normal ⟨_, hV10.out⟩ ?_
       exact weakZF (And.intro @ncells_mk @scells_mk)
     | false =>
       rw [hnh] at hV10
       replace hV10 := Lib.hid hV10
       refine walkGF (And.intro @ncells_mk @scells_mk) ?_
       refine walkD (hA) ?_
       refine walkGF (And.intro @ncells_mk @scells_mk) ?_
       refine walkD (hO) ?_
       refine walkGF (And.intro @ncells_mk (And.intro @scells_mk (And.intro @str_toList (And.intro hE hnh)))) ?_
       refine .normal ⟨_, hV10.out⟩ ?_
       exact weakZF (And.intro @ncells_mk @scells_mk)
 by_cases h1112 : n.kind = 11 ∨ n.kind = 12
 · have hV11 : V = (true && bB) := by
    rw [hV, if_neg h9, if_neg h10, if_neg (by omega), if_neg (by omega)]
    have o1 : decide (1 ≤ n.kind) = true := by simp; omega
    have o2 : decide (n.kind ≤ 14) = true := by simp; omega
    rw [o1, o2]
    simp
   have e9 : (n.kind == 9) = false := by simpa using h9
   have e10 : (n.kind == 10) = false := by simpa using h10
   have o1 : decide (n.kind ≥ 1) = true := by simp; omega
   have o2 : decide (n.kind ≤ 14) = true := by simp; omega
   clear hV
   have hz : n.kind ≠ 13 ∧ n.kind ≠ 14 := by omega
   have pk : (partN n).kind = n.kind := rfl
   have pf : (partN n).fields = [] := by simp [partN, h9, h10, h1112, hz.1, hz.2]
   have ps : (partN n).symbols = [] := by simp [partN, h9, h10, h1112, hz.1, hz.2]
   have ph : (partN n).has = false := by simp [partN, h9, h10, h1112, hz.1, hz.2]
   have pd : (partN n).dflt = [] := by simp [partN, h9, h10, h1112, hz.1, hz.2]
   have pz : (partN n).size = 0 := by simp [partN, h9, h10, h1112, hz.1, hz.2]
   have pi : (partN n).items = n.items := by simp [partN, h9, h10, h1112, hz.1, hz.2]
   have pb : (partN n).branches = [] := by simp [partN, h9, h10, h1112, hz.1, hz.2]
   rcases h1112 with h11 | h11
   · have e11 : (n.kind == 11) = true := by simpa using h11
     refine walkBF (And.intro @ncells_mk (And.intro e9 (And.intro e10 e11))) ?_
     refine .normal ⟨true, hV11⟩ ?_
     exact weakZF (And.intro @ncells_mk (And.intro @scells_mk (And.intro o1 (And.intro o2 (And.intro pk (And.intro pf (And.intro ps (And.intro ph (And.intro pd (And.intro pz (And.intro pi pb)))))))))))
   · have e11 : (n.kind == 11) = false := by simp; omega
     have e12 : (n.kind == 12) = true := by simpa using h11
     refine walkBF (And.intro @ncells_mk (And.intro e9 (And.intro e10 (And.intro e11 e12)))) ?_
     refine .normal ⟨true, hV11⟩ ?_
     exact weakZF (And.intro @ncells_mk (And.intro @scells_mk (And.intro o1 (And.intro o2 (And.intro pk (And.intro pf (And.intro ps (And.intro ph (And.intro pd (And.intro pz (And.intro pi pb)))))))))))
 have e9 : (n.kind == 9) = false := by simpa using h9
 have e10 : (n.kind == 10) = false := by simpa using h10
 have e11 : (n.kind == 11) = false := by simp; omega
 have e12 : (n.kind == 12) = false := by simp; omega
 by_cases h13 : n.kind = 13
 · have hbr := hbr h13
   have o1 : decide (n.kind ≥ 1) = true := by simp; omega
   have o2 : decide (n.kind ≤ 14) = true := by simp; omega
   have e13 : (n.kind == 13) = true := by simpa using h13
   have hV13 : V = (((decide ((n.branches.length : Int) > 0) && decide ((n.branches.length : Int) ≤ 10)) && branchesM s.nodes [] n.branches) && bB) := by
    have x1 : decide ((n.branches.length : Int) > 0) = decide (1 ≤ n.branches.length) := decide_eq_decide.2 (by omega)
    have x2 : decide ((n.branches.length : Int) ≤ 10) = decide (n.branches.length ≤ 10) := decide_eq_decide.2 (by omega)
    rw [hV, if_neg h9, if_neg h10, if_neg (by omega), if_pos h13, h13, unionM, x1, x2]
    simp [Bool.and_comm, Bool.and_assoc]
   clear hV
   have pk : (partN n).kind = n.kind := rfl
   have pf : (partN n).fields = [] := by simp [partN, h13]
   have ps : (partN n).symbols = [] := by simp [partN, h13]
   have ph : (partN n).has = false := by simp [partN, h13]
   have pd : (partN n).dflt = [] := by simp [partN, h13]
   have pz : (partN n).size = 0 := by simp [partN, h13]
   have pi : (partN n).items = 0 := by simp [partN, h13]
   have pb : (partN n).branches = n.branches := by simp [partN, h13]
   obtain ⟨L, hL⟩ : ∃ L, L = (decide ((n.branches.length : Int) > 0) && decide ((n.branches.length : Int) ≤ 10)) := ⟨_, rfl⟩
   rw [← hL] at hV13
   refine walkBF (And.intro @ncells_mk (And.intro e9 (And.intro e10 (And.intro e11 (And.intro e12 e13))))) ?_
   refine VC.loop (ι := {i : Nat // i ≤ n.branches.length}) (fun q => [(2, .ref 0 1 0 0), (3, .ref 8 1 0 0), (5, .ref 48 1 0 0), (7, .c (.v (.bool (L && branchesM s.nodes [] (n.branches.take q.1))))), (13, .c (.v (.int .i64 (q.1 : Int))))])
    (fun q => [(0, ⟨false, 24, 2, [s.cells.map .c]⟩), (8, ⟨false, 33, 10, [n.cells.map .c]⟩), (48, ⟨false, 33, 10, [(partN n).cells.map .c]⟩)]) 10000 (fun q => n.branches.length - q.1) ⟨0, Nat.zero_le _⟩ ?_ ?_
   · refine weakXF (And.intro @ncells_mk (And.intro @scells_mk (And.intro o1 (And.intro o2 (And.intro hL (And.intro pk (And.intro pf (And.intro ps (And.intro ph (And.intro pd (And.intro pz (And.intro pi pb)))))))))))) ?_
     simp [branchesM]
   rintro ⟨i, hi⟩
   simp only []
   refine walkGF (And.intro @ncells_mk @scells_mk) ?_
   refine VC.cond (by rfl) (by trivial) (fun hc => ?_) (fun hc => ?_)
   · have hlt : i < n.branches.length := by simp at hc; omega
     obtain ⟨x, hx⟩ : ∃ x, n.branches[i]? = some x := ⟨n.branches[i], List.getElem?_eq_getElem hlt⟩
     obtain ⟨y0, y1⟩ := hbr x (List.mem_of_getElem? hx)
     obtain ⟨p, rfl⟩ : ∃ p : Nat, x = (p : Int) := ⟨x.toNat, by omega⟩
     obtain ⟨m, hm⟩ : ∃ m, s.nodes[p]? = some m := ⟨s.nodes[p]'(by omega), List.getElem?_eq_getElem (by omega)⟩
     have hmp : (s.nodes.map NT.cells)[p]? = some m.cells := by rw [List.getElem?_map, hm]; rfl
     have hw : IntKind.i64.wrap ((i : Int) + 1) = (i : Int) + 1 := wrap64_id (by omega) (by omega)
     have hxp : (n.branches.map iPV)[i]? = some (iPV (p : Int)) := by rw [List.getElem?_map, hx]; rfl
     have hnx : branchesM s.nodes [] (n.branches.take (i + 1)) = (branchesM s.nodes [] (n.branches.take i) && branchM s.nodes (n.branches.take i) (p : Int)) := by
      rw [List.take_add_one, hx, Option.toList_some, branchesM_snoc, List.nil_append]
     rw [branchM, Int.toNat_natCast, kindAt_of hm] at hnx
     obtain ⟨b0, hb0⟩ : ∃ b, b = branchesM s.nodes [] (n.branches.take i) := ⟨_, rfl⟩
     rw [← hb0] at hnx ⊢
     clear hb0
     replace hnx := Lib.hid hnx
     have hNm := rnamed10_told m.kind
     obtain ⟨bn, hbn⟩ : ∃ b, b = namedK m.kind := ⟨_, rfl⟩
     rw [← hbn] at hNm
     refine walkGF (And.intro @ncells_mk (And.intro @scells_mk (And.intro hxp (And.intro @iPV_eq hmp)))) ?_
     refine VC.loop (ι := {k : Nat // k ≤ i}) (fun q => [(2, .ref 0 1 0 0), (3, .ref 8 1 0 0), (5, .ref 48 1 0 0), (7, .c (.v (.bool (((L && b0) && (m.kind != 13)) && !(n.branches.take q.1).any fun z => z == (p : Int) || (!bn && kindAt s.nodes z.toNat == m.kind))))), (13, .c (.v (.int .i64 (i : Int)))), (14, .ref 10112 1 0 0), (15, .c (.v (.int .i64 (q.1 : Int))))])
      (fun q => [(0, ⟨false, 24, 2, [s.cells.map .c]⟩), (8, ⟨false, 33, 10, [n.cells.map .c]⟩), (48, ⟨false, 33, 10, [(partN n).cells.map .c]⟩), (10112, ⟨false, 33, 10, [m.cells.map .c]⟩)]) 20000 (fun q => i - q.1) ⟨0, Nat.zero_le _⟩ ?_ ?_
     · refine weakXF (And.intro @ncells_mk @scells_mk) ?_
       simp
     rintro ⟨k, hk⟩
     simp only []
     refine walkGF (And.intro @ncells_mk @scells_mk) ?_
     refine VC.cond (by rfl) (by trivial) (fun hc2 => ?_) (fun hc2 => ?_)
     · have hki : k < i := by simp at hc2; omega
       obtain ⟨y, hy⟩ : ∃ y, n.branches[k]? = some y := ⟨n.branches[k]'(by omega), List.getElem?_eq_getElem (by omega)⟩
       obtain ⟨z0, z1⟩ := hbr y (List.mem_of_getElem? hy)
       obtain ⟨r, rfl⟩ : ∃ r : Nat, y = (r : Int) := ⟨y.toNat, by omega⟩
       obtain ⟨w, hwn⟩ : ∃ w, s.nodes[r]? = some w := ⟨s.nodes[r]'(by omega), List.getElem?_eq_getElem (by omega)⟩
       have hwp : (s.nodes.map NT.cells)[r]? = some w.cells := by rw [List.getElem?_map, hwn]; rfl
       have hwk : IntKind.i64.wrap ((k : Int) + 1) = (k : Int) + 1 := wrap64_id (by omega) (by omega)
       have hyp : (n.branches.map iPV)[k]? = some (iPV (r : Int)) := by rw [List.getElem?_map, hy]; rfl
       have hnk : (!(n.branches.take (k + 1)).any fun z => z == (p : Int) || (!bn && kindAt s.nodes z.toNat == m.kind)) = ((!(n.branches.take k).any fun z => z == (p : Int) || (!bn && kindAt s.nodes z.toNat == m.kind)) && (((p : Int) != (r : Int)) && ((m.kind != w.kind) || bn))) := by
        rw [List.take_add_one, hy, List.any_append]
        simp only [Option.toList_some, List.any_cons, List.any_nil, Bool.or_false, Int.toNat_natCast, kindAt_of hwn, Bool.not_or, Bool.not_and, Bool.not_not]
        congr 1
        congr 1
        · rw [bne_comm]; rfl
        · rw [Bool.or_comm, bne_comm]; rfl
       obtain ⟨b1, hb1⟩ : ∃ b, b = !(n.branches.take k).any fun z => z == (p : Int) || (!bn && kindAt s.nodes z.toNat == m.kind) := ⟨_, rfl⟩
       rw [← hb1] at hnk ⊢
       clear hb1
       replace hnk := Lib.hid hnk
       refine walkGF (And.intro @ncells_mk (And.intro @scells_mk (And.intro hxp (And.intro hyp (And.intro @iPV_eq (And.intro hmp hwp)))))) ?_
       refine walkD (hNm) ?_
       refine walkGF (hwk) ?_
       refine .next ⟨k + 1, by omega⟩ ?_ (by simp only []; omega)
       simp only [ncells_mk, scells_mk, hnk.out, Bool.and_assoc, Weak, eq_self, used_is, sc_any, sc_c, sc_pp, sc_ref, sc_row, sc_agg, sc_fn, ScL, some_imp, List.forall_mem_map, go_sem, Int.reduceBEq, Int.reduceLE, Int.reduceLT, Int.reduceNeg, Nat.reduceAdd, Nat.reduceEqDiff, Nat.reduceLT, Nat.reduceLeDiff, Nat.reduceMul, Nat.reduceSub, reduceCtorEq, ↓reduceIte]
       exact cI (by omega)
     · have hke : k = i := by simp at hc2; omega
       subst hke
       refine walkGF (hw) ?_
       refine .next ⟨k + 1, by omega⟩ ?_ (by simp only []; omega)
       simp only [ncells_mk, scells_mk, hnx.out, hbn, Bool.and_assoc, Weak, eq_self, used_is, sc_any, sc_c, sc_pp, sc_ref, sc_row, sc_agg, sc_fn, ScL, some_imp, List.forall_mem_map, go_sem, Int.reduceBEq, Int.reduceLE, Int.reduceLT, Int.reduceNeg, Nat.reduceAdd, Nat.reduceEqDiff, Nat.reduceLT, Nat.reduceLeDiff, Nat.reduceMul, Nat.reduceSub, reduceCtorEq, ↓reduceIte]
       exact cI (by omega)
   · have hie : i = n.branches.length := by simp at hc; omega
     rw [show n.branches.take i = n.branches by rw [hie, List.take_length]]
     refine walkG ?_
     refine .normal ⟨_, hV13⟩ ?_
     exact weakZF (And.intro @ncells_mk @scells_mk)
 have e13 : (n.kind == 13) = false := by simpa using h13
 by_cases h14 : n.kind = 14
 · have o1 : decide (n.kind ≥ 1) = true := by simp; omega
   have o2 : decide (n.kind ≤ 14) = true := by simp; omega
   have hV14 : V = ((decide (n.size ≥ 0) && decide (n.size ≤ 1000)) && bB) := by
    rw [hV, if_neg h9, if_neg h10, if_pos h14, h14]
    simp [Bool.and_comm]
   clear hV
   have pk : (partN n).kind = n.kind := rfl
   have pf : (partN n).fields = [] := by simp [partN, h14]
   have ps : (partN n).symbols = [] := by simp [partN, h14]
   have ph : (partN n).has = false := by simp [partN, h14]
   have pd : (partN n).dflt = [] := by simp [partN, h14]
   have pz : (partN n).size = n.size := by simp [partN, h14]
   have pi : (partN n).items = 0 := by simp [partN, h14]
   have pb : (partN n).branches = [] := by simp [partN, h14]
   have e14 : (n.kind == 14) = true := by simpa using h14
   refine walkBF (And.intro @ncells_mk (And.intro e9 (And.intro e10 (And.intro e11 (And.intro e12 (And.intro e13 e14)))))) ?_
   refine .normal ⟨_, hV14⟩ ?_
   exact weakZF (And.intro @ncells_mk (And.intro @scells_mk (And.intro o1 (And.intro o2 (And.intro pk (And.intro pf (And.intro ps (And.intro ph (And.intro pd (And.intro pz (And.intro pi pb)))))))))))
 · have hV0 : V = ((decide (n.kind ≥ 1) && decide (n.kind ≤ 14)) && bB) := by
    rw [hV, if_neg h9, if_neg h10, if_neg h14, if_neg h13]
    simp [Bool.and_assoc]
   clear hV
   have pk : (partN n).kind = n.kind := rfl
   have pf : (partN n).fields = [] := by simp [partN, h9, h10, h13, h14, h1112]
   have ps : (partN n).symbols = [] := by simp [partN, h9, h10, h13, h14, h1112]
   have ph : (partN n).has = false := by simp [partN, h9, h10, h13, h14, h1112]
   have pd : (partN n).dflt = [] := by simp [partN, h9, h10, h13, h14, h1112]
   have pz : (partN n).size = 0 := by simp [partN, h9, h10, h13, h14, h1112]
   have pi : (partN n).items = 0 := by simp [partN, h9, h10, h13, h14, h1112]
   have pb : (partN n).branches = [] := by simp [partN, h9, h10, h13, h14, h1112]
   have e14 : (n.kind == 14) = false := by simpa using h14
   refine walkBF (And.intro @ncells_mk (And.intro e9 (And.intro e10 (And.intro e11 (And.intro e12 (And.intro e13 e14)))))) ?_
   refine .normal ⟨_, hV0⟩ ?_
   exact weakZF (And.intro @ncells_mk (And.intro @scells_mk (And.intro pk (And.intro pf (And.intro ps (And.intro ph (And.intro pd (And.intro pz (And.intro pi pb)))))))))

theorem take_step {ns : List NT} {l : List Int} {i : Nat} (h : i < ns.length) : (wstep ns l).take (i + 1) = (wstep ns l).take i ++ [foldW (wAt l) (fieldsAt ns i) 1] := by
 rw [List.take_add_one, wstep_at h]
 rfl
theorem fieldsAt_of {ns : List NT} {i : Nat} {n : NT} (h : ns[i]? = some n) : fieldsAt ns i = if n.kind = 9 then n.fields else [] := by rw [fieldsAt, h]
noncomputable def difT (a b : List Int) (i : Nat) : Bool := @decide (a.take i ≠ b.take i) (Classical.propDecidable _)
theorem difT_zero (a b : List Int) : difT a b 0 = false := by simp [difT]
theorem difT_next {a b : List Int} {i : Nat} {x y : Int} (hx : a[i]? = some x) (hy : b[i]? = some y) : difT a b (i + 1) = (difT a b i || (x != y)) := by
 have hla := (List.getElem?_eq_some_iff.1 hx).1
 have hlb := (List.getElem?_eq_some_iff.1 hy).1
 rw [Bool.eq_iff_iff]
 simp only [difT, decide_eq_true_eq, Bool.or_eq_true, bne_iff_ne, ne_eq]
 rw [List.take_add_one, List.take_add_one, hx, hy, Option.toList_some, Option.toList_some]
 constructor
 · intro h
   by_cases h1 : a.take i = b.take i
   · by_cases h2 : x = y
     · exact absurd (by rw [h1, h2]) h
     · exact .inr h2
   · exact .inl h1
 · rintro h e
   have := List.append_inj e (by simp; omega)
   rcases h with h | h
   · exact h this.1
   · exact h (List.cons.inj this.2).1
theorem difT_end {a b : List Int} {i : Nat} (ha : a.length = i) (hb : b.length = i) : difT a b i = false ↔ a = b := by
 simp only [difT, decide_eq_false_iff_not, ne_eq, Classical.not_not]
 rw [List.take_of_length_le (by omega), List.take_of_length_le (by omega)]
theorem rweights_told (s : ST) (hl : s.nodes.length ≤ 1000000) (hs : ∀ n ∈ s.nodes, n.sm 1000000) (hr : ∀ p, ∀ x ∈ fieldsAt s.nodes p, 0 ≤ x.type ∧ x.type < (s.nodes.length : Int)) (l : List Int) (hG : ∀ l', WOk s.nodes l' → wstep s.nodes l' = l' → l' = l) :
  Told Tryz.prog 89 [s.av] (.c (.sl 1 (l.map iPV))) := by
 rw [ST.av_eq, scells_mk]
 refine VC.toldP ent_89 Tryz.func89 rfl Tryz.ntmps89 fun hb => ?_
 clear hb
 refine walkG ?_
 refine VC.nil 3 3 1 (by rfl) (by trivial) (by rfl) ?_
 refine VC.loop (ι := {i : Nat // i ≤ s.nodes.length}) (fun q => [(1, .ref 0 1 0 0), (3, .row 32 q.1), (4, .c (.v (.int .i64 (q.1 : Int))))]) (fun q => [(0, ⟨false, 24, 2, [s.cells.map .c]⟩), (32, ⟨true, 3, 1, rA iPV (List.replicate q.1 1)⟩)]) 800 (fun q => s.nodes.length - q.1)
  ⟨0, Nat.zero_le _⟩ ?_ ?_
 · simp only [rA_len, rA_sc, rA_nil, scells_mk, Weak, eq_self, used_is, sc_any, sc_c, sc_pp, sc_ref, sc_row, sc_agg, sc_fn, ScL, some_imp, List.forall_mem_map, go_sem, Int.reduceBEq, Int.reduceLE, Int.reduceLT, Int.reduceNeg, Nat.reduceAdd, Nat.reduceEqDiff, Nat.reduceLT, Nat.reduceLeDiff, Nat.reduceMul, Nat.reduceSub, reduceCtorEq, ↓reduceIte]
   try simp [rA_nil]
 rintro ⟨i, hi⟩
 simp only []
 refine walkGF (@scells_mk) ?_
 refine VC.cond (by rfl) (by trivial) (fun hc => ?_) (fun hc => ?_)
 · have hlt : i < s.nodes.length := by simp at hc; omega
   have hw : IntKind.i64.wrap ((i : Int) + 1) = (i : Int) + 1 := wrap64_id (by omega) (by omega)
   have hln : (rA iPV (List.replicate i 1)).length = i := by rw [rA_len]; simp
   have hap : rA iPV (List.replicate i 1) ++ [[.c (.v (.int .i64 1))]] = rA iPV (List.replicate (i + 1) 1) := by
    rw [List.replicate_succ']
    exact rA_one iPV _ 1
   have hl2 : (rA iPV (List.replicate (i + 1) 1)).length = i + 1 := by rw [rA_len]; simp
   refine walkGF (And.intro hln (And.intro hap hw)) ?_
   refine .next ⟨i + 1, by omega⟩ ?_ (by simp only []; omega)
   refine weakXF (And.intro hl2 (And.intro @rA_sc @scells_mk)) ?_
   exact ⟨cI (by omega), by rw [rA_len]; simp⟩
 have hie : i = s.nodes.length := by simp at hc; omega
 subst hie
 have hln : (rA iPV (List.replicate s.nodes.length 1)).length = s.nodes.length := by rw [rA_len]; simp
 refine walkG ?_
 refine VC.frz [32] [(1, .ref 0 1 0 0), (3, .c (.sl 1 ((List.replicate s.nodes.length 1).map iPV))), (5, .c (.v (.bool true)))] [(0, ⟨false, 24, 2, [s.cells.map .c]⟩)] 1600 ?_ ?_
 · simp only [rA_sc, rA_len, scells_mk, WeakF, used_is, sc_any, sc_c, sc_pp, sc_ref, sc_row, sc_agg, sc_fn, ScL, some_imp, List.forall_mem_map, go_sem, Int.reduceBEq, Int.reduceLE, Int.reduceLT, Int.reduceNeg, Nat.reduceAdd, Nat.reduceEqDiff, Nat.reduceLT, Nat.reduceLeDiff, Nat.reduceMul, Nat.reduceSub, reduceCtorEq, ↓reduceIte]
   exact ⟨⟨.same _, .row (B := ⟨true, 3, 1, rA iPV (List.replicate s.nodes.length 1)⟩) (es := (List.replicate s.nodes.length 1).map iPV) (by simp) rfl rfl hln (rA_pv _ _), .same _⟩, .same _⟩
 refine VC.loop (ι := {x : List Int × Bool // WOk s.nodes x.1 ∧ (x.2 = false → wstep s.nodes x.1 = x.1)}) (fun q => [(1, .ref 0 1 0 0), (3, .c (.sl 1 (q.1.1.map iPV))), (5, .c (.v (.bool q.1.2)))]) (fun q => [(0, ⟨false, 24, 2, [s.cells.map .c]⟩)]) 3200 (fun q => wlack q.1.1 * 2 + q.1.2.toNat)
  ⟨(List.replicate s.nodes.length 1, true), wok_one s.nodes, by simp⟩ ?_ ?_
 · exact weakZF (@scells_mk)
 rintro ⟨⟨w, more⟩, hwk, hmore⟩
 simp only [] at hwk hmore ⊢
 refine walkG ?_
 refine VC.cond (by rfl) (by trivial) (fun hm => ?_) (fun hm => ?_)
 rotate_left
 · obtain rfl := hG w hwk (hmore hm)
   refine walkG ?_
   refine retX Tryz.results89 ?_
   exact .c _
 subst hm
 obtain ⟨hwl, hwr, hwm⟩ := hwk
 have hwl2 : (w.map iPV).length = s.nodes.length := by simp [hwl]
 refine walkG ?_
 refine VC.nil 6 3 1 (by rfl) (by trivial) (by rfl) ?_
 refine VC.loop (ι := {i : Nat // i ≤ s.nodes.length}) (fun q => [(1, .ref 0 1 0 0), (3, .c (.sl 1 (w.map iPV))), (5, .c (.v (.bool (difT (wstep s.nodes w) w q.1)))), (6, .row 3232 q.1), (7, .c (.v (.int .i64 (q.1 : Int))))]) (fun q => [(0, ⟨false, 24, 2, [s.cells.map .c]⟩), (3232, ⟨true, 3, 1, rA iPV ((wstep s.nodes w).take q.1)⟩)]) 4800 (fun q => s.nodes.length - q.1)
  ⟨0, Nat.zero_le _⟩ ?_ ?_
 · exact weakZF (And.intro @rA_len (And.intro @rA_sc (And.intro @rA_nil (And.intro @scells_mk @difT_zero))))
 rintro ⟨i, hi⟩
 simp only []
 refine walkGF (@scells_mk) ?_
 refine VC.cond (by rfl) (by trivial) (fun hc => ?_) (fun hc => ?_)
 · have hlt : i < s.nodes.length := by simp at hc; omega
   obtain ⟨n, hn⟩ : ∃ n, s.nodes[i]? = some n := ⟨s.nodes[i], List.getElem?_eq_getElem hlt⟩
   have hnp : (s.nodes.map NT.cells)[i]? = some n.cells := by rw [List.getElem?_map, hn]; rfl
   have hw : IntKind.i64.wrap ((i : Int) + 1) = (i : Int) + 1 := wrap64_id (by omega) (by omega)
   have hfl := (hs n (List.mem_of_getElem? hn)).2.2.2.2.2.1
   obtain ⟨v, hv⟩ : ∃ v, w[i]? = some v := ⟨w[i]'(by omega), List.getElem?_eq_getElem (by omega)⟩
   have hvp : (w.map iPV)[i]? = some (iPV v) := by rw [List.getElem?_map, hv]; rfl
   have hwa := fun q => wAt_range hwr q
   have hsl : (wstep s.nodes w).length = s.nodes.length := by simp [wstep]
   have hln2 : (rA iPV ((wstep s.nodes w).take i)).length = i := by rw [rA_len]; simp; omega
   have hl2 : (rA iPV ((wstep s.nodes w).take (i + 1))).length = i + 1 := by rw [rA_len]; simp; omega
   have hst := take_step (l := w) hlt
   have hat := wstep_at (l := w) hlt
   have hdn := difT_next hat hv
   obtain ⟨T, hT⟩ : ∃ T, T = foldW (wAt w) (fieldsAt s.nodes i) 1 := ⟨_, rfl⟩
   rw [← hT] at hst hat hdn
   have hap : rA iPV ((wstep s.nodes w).take i) ++ [[.c (.v (.int .i64 T))]] = rA iPV ((wstep s.nodes w).take (i + 1)) := by
    rw [hst]
    exact rA_one iPV _ T
   have hfa := fieldsAt_of hn
   replace hdn := Lib.hid hdn
   have hlw : ∀ (F : List FT) (a : Int), a ≤ 1001 → foldW (wAt w) F a ≤ 1001 := fun F a h => foldW_le F a h
   have hgw : ∀ (F : List FT) (a : Int), a ≤ 1001 → a ≤ foldW (wAt w) F a := fun F a h => foldW_ge (fun q => (hwa q).1) F a h
   refine walkG ?_
   refine VC.loop (ι := {x : Nat × Int // x.1 ≤ n.fields.length ∧ 1 ≤ x.2 ∧ x.2 ≤ 2001 ∧ foldW (wAt w) ((if n.kind = 9 then n.fields else []).drop x.1) (min x.2 1001) = T}) (fun q => [(1, .ref 0 1 0 0), (3, .c (.sl 1 (w.map iPV))), (5, .c (.v (.bool (difT (wstep s.nodes w) w i)))), (6, .row 3232 i), (7, .c (.v (.int .i64 (i : Int)))), (8, .c (.v (.int .i64 q.1.2))), (9, .c (.v (.int .i64 (q.1.1 : Int))))])
    (fun q => [(0, ⟨false, 24, 2, [s.cells.map .c]⟩), (3232, ⟨true, 3, 1, rA iPV ((wstep s.nodes w).take i)⟩)]) 6400 (fun q => n.fields.length - q.1.1) ⟨(0, 1), Nat.zero_le _, by simp only []; omega, by simp only []; omega, by rw [hT, hfa]; rfl⟩ ?_ ?_
   · refine weakXF (And.intro hln2 (And.intro @rA_sc @scells_mk)) ?_
     exact Nat.le_refl _
   rintro ⟨⟨k, m⟩, hk, hm1, hm2, hfo⟩
   simp only [] at hk hm1 hm2 hfo ⊢
   refine walkGF (And.intro @scells_mk (And.intro hnp @ncells_mk)) ?_
   refine VC.cond (by rfl) (by trivial) (fun hc2 => ?_) (fun hc2 => ?_)
   · obtain ⟨hkl, h9, hmk⟩ : k < n.fields.length ∧ n.kind = 9 ∧ m ≤ 1000 := by
      simp at hc2
      omega
     obtain ⟨f, hf⟩ : ∃ f, n.fields[k]? = some f := ⟨n.fields[k], List.getElem?_eq_getElem hkl⟩
     have hfp : (n.fields.map FT.cells)[k]? = some f.cells := by rw [List.getElem?_map, hf]; rfl
     have hwk : IntKind.i64.wrap ((k : Int) + 1) = (k : Int) + 1 := wrap64_id (by omega) (by omega)
     obtain ⟨t0, t1⟩ := hr i f (by rw [hfa, if_pos h9]; exact List.mem_of_getElem? hf)
     obtain ⟨q, hq⟩ : ∃ q : Nat, f.type = (q : Int) := ⟨f.type.toNat, by omega⟩
     obtain ⟨u, hu⟩ : ∃ u, w[q]? = some u := ⟨w[q]'(by omega), List.getElem?_eq_getElem (by omega)⟩
     have hup : (w.map iPV)[q]? = some (iPV u) := by rw [List.getElem?_map, hu]; rfl
     have hur := hwr u (List.mem_of_getElem? hu)
     have hwu : IntKind.i64.wrap (m + u) = m + u := wrap64_id (by omega) (by omega)
     rw [if_pos h9, drop_at' hf, foldW, hq, Int.toNat_natCast, wAt_of hu] at hfo
     refine walkGF (And.intro @scells_mk (And.intro hnp (And.intro @ncells_mk (And.intro hfp (And.intro @fcells_mk (And.intro hq (And.intro hup (And.intro @iPV_eq (And.intro hwl2 (And.intro hwl (And.intro hwu hwk))))))))))) ?_
     refine .next ⟨(k + 1, m + u), by simp only []; omega, by simp only []; omega, by simp only []; omega, by
      simp only []
      rw [if_pos h9, ← hfo]
      congr 1
      omega⟩ ?_ (by simp only []; omega)
     refine weakXF (And.intro hln2 (And.intro @rA_sc @scells_mk)) ?_
     exact ⟨cI (by omega), Nat.le_refl _⟩
   · have hend : min m 1001 = T := by
      rw [← hfo]
      by_cases h9 : n.kind = 9
      · rw [if_pos h9]
        by_cases hkl : k < n.fields.length
        · have hmb : 1000 < m := by
           simp [h9] at hc2
           omega
          have a := hlw (n.fields.drop k) (min m 1001) (by omega)
          have b := hgw (n.fields.drop k) (min m 1001) (by omega)
          omega
        · rw [List.drop_of_length_le (by omega), foldW]
      · rw [if_neg h9, List.drop_nil, foldW]
     refine walkG ?_
     refine VC.cond (by rfl) (by trivial) (fun hc3 => ?_) (fun hc3 => ?_)
     · have hmT : T = 1001 := by
        rw [← hend]
        simp at hc3
        omega
       subst hmT
       refine walkGF (And.intro @scells_mk (And.intro hvp (And.intro @iPV_eq (And.intro hwl2 (And.intro hwl (And.intro hln2 (And.intro hap hw))))))) ?_
       refine .next ⟨i + 1, by omega⟩ ?_ (by simp only []; omega)
       refine weakXF (And.intro hl2 (And.intro @rA_sc (And.intro @scells_mk hdn.out))) ?_
       exact ⟨cI (by omega), Nat.le_refl _⟩
     · have hmT : m = T := by
        rw [← hend]
        simp at hc3
        omega
       subst hmT
       refine walkGF (And.intro @scells_mk (And.intro hvp (And.intro @iPV_eq (And.intro hwl2 (And.intro hwl (And.intro hln2 (And.intro hap hw))))))) ?_
       refine .next ⟨i + 1, by omega⟩ ?_ (by simp only []; omega)
       refine weakXF (And.intro hl2 (And.intro @rA_sc (And.intro @scells_mk hdn.out))) ?_
       exact ⟨cI (by omega), Nat.le_refl _⟩
 have hie : i = s.nodes.length := by simp at hc; omega
 have hsl : (wstep s.nodes w).length = s.nodes.length := by simp [wstep]
 subst hie
 rw [show (wstep s.nodes w).take s.nodes.length = wstep s.nodes w from List.take_of_length_le (by omega)]
 have hln3 : (rA iPV (wstep s.nodes w)).length = s.nodes.length := by rw [rA_len, hsl]
 obtain ⟨d, hd⟩ : ∃ d, d = difT (wstep s.nodes w) w s.nodes.length := ⟨_, rfl⟩
 rw [← hd]
 have hde := difT_end (a := wstep s.nodes w) (b := w) hsl hwl
 rw [← hd] at hde
 have hlack := fun h : wstep s.nodes w ≠ w => wstep_lack ⟨hwl, hwr, hwm⟩ h
 have hok := wok_step ⟨hwl, hwr, hwm⟩
 refine VC.frz [3232] [(1, .ref 0 1 0 0), (6, .c (.sl 1 ((wstep s.nodes w).map iPV))), (5, .c (.v (.bool d)))] [(0, ⟨false, 24, 2, [s.cells.map .c]⟩)] 12000 ?_ ?_
 · simp only [rA_sc, rA_len, scells_mk, WeakF, used_is, sc_any, sc_c, sc_pp, sc_ref, sc_row, sc_agg, sc_fn, ScL, some_imp, List.forall_mem_map, go_sem, Int.reduceBEq, Int.reduceLE, Int.reduceLT, Int.reduceNeg, Nat.reduceAdd, Nat.reduceEqDiff, Nat.reduceLT, Nat.reduceLeDiff, Nat.reduceMul, Nat.reduceSub, reduceCtorEq, ↓reduceIte]
   exact ⟨⟨.same _, .row (B := ⟨true, 3, 1, rA iPV (wstep s.nodes w)⟩) (es := (wstep s.nodes w).map iPV) (by simp) rfl rfl hln3 (rA_pv _ _), .same _⟩, .same _⟩
 refine walkG ?_
 refine .next ⟨(wstep s.nodes w, d), hok, fun h => ?_⟩ ?_ ?_
 · have e := hde.1 h
   simp only []
   rw [e]
   exact e
 · exact weakZF (@scells_mk)
 · simp only []
   cases d with
   | false =>
     have e := hde.1 rfl
     rw [e]
     simp
   | true =>
     have := hlack fun e => by
      have := hde.2 e
      simp at this
     simp
     omega

theorem cellish_map (l : List PV) : ∀ x ∈ l.map AV.c, x.cellish = true := fun x hx => by
 obtain ⟨p, _, rfl⟩ := List.mem_map.1 hx
 rfl

theorem ssm_le' {s : ST} (h : s.sm 2500) : s.sm 1000000 := by
 obtain ⟨h1, h2⟩ := h
 refine ⟨by omega, fun n hn => ?_⟩
 obtain ⟨a1, a2, ⟨a3, a4⟩, ⟨a5, a6⟩, a7, a8, a9⟩ := h2 n hn
 refine ⟨by omega, by omega, ⟨by omega, fun y hy => by have := a4 y hy; omega⟩, ⟨by omega, fun y hy => by have := a6 y hy; omega⟩, by omega, by omega, fun f hf => ?_⟩
 obtain ⟨b1, b2, b3, b4⟩ := a9 f hf
 exact ⟨by omega, by omega, fun y hy => by have := b3 y hy; omega, sm_le (by omega) _ b4⟩
theorem range_kinds {s : ST} (h : orderedM s = true) : ∀ n ∈ s.nodes, n.kind = 9 → ∀ f ∈ n.fields, 0 ≤ f.type ∧ f.type < (s.nodes.length : Int) := fun n hn h9 f hf =>
 ordered_kids h n hn f.type (by rw [kidsN, if_pos h9]; exact List.mem_map.2 ⟨f, hf, rfl⟩)
theorem range_at {s : ST} (h : orderedM s = true) : ∀ p, ∀ x ∈ fieldsAt s.nodes p, x.type.toNat < s.nodes.length := fun p x hx => by
 unfold fieldsAt at hx
 split at hx
 · rename_i n hn
   split at hx
   · rename_i h9
     have := range_kinds h n (List.mem_of_getElem? hn) h9 x hx
     omega
   · simp at hx
 · simp at hx

theorem gList {ns : List NT} {G : Nat → Int} {l' : List Int} (hG : IsG ns G) (hr : ∀ p, ∀ x ∈ fieldsAt ns p, x.type.toNat < ns.length) (h : WOk ns l') (he : wstep ns l' = l') : l' = (List.range ns.length).map G := by
 apply List.ext_getElem?
 intro i
 by_cases hi : i < ns.length
 · rw [wok_G hG hr h he i hi, List.getElem?_map, List.getElem?_range hi]
   rfl
 · rw [List.getElem?_eq_none (by have := h.1; omega), List.getElem?_eq_none (by simp; omega)]
theorem rRight_told (s : ST) (hsm : s.sm 1000000) (hdp : ∀ n ∈ s.nodes, ∀ f ∈ n.fields, tdeep f.dflt ≤ 1000) : Told Tryz.prog 52 [s.av] (.c (.v (.bool (rightM s)))) := by
 obtain ⟨V, hV⟩ : ∃ V, V = rightM s := ⟨_, rfl⟩
 rw [← hV]
 obtain ⟨hl, hs⟩ := hsm
 have hO := rordered_told s hl hs
 simp only [ST.av_eq, scells_mk, List.map_cons, List.map_nil] at hO
 rw [ST.av_eq, scells_mk]
 cases ho : orderedM s with
 | false =>
   rw [ho] at hO
   have hf : V = false := by
    cases h : V with
    | false => rfl
    | true =>
      rw [hV] at h
      rw [right_ordered h] at ho
      exact absurd ho (by simp)
   subst hf
   refine VC.toldP ent_52 Tryz.func52 rfl Tryz.ntmps52 fun hb => ?_
   clear hb
   refine walkG ?_
   refine walkC (hO) ?_
   refine walkB ?_
   refine retX Tryz.results52 ?_
   exact .c _
 | true =>
 rw [ho] at hO
 have hki := ordered_kids ho
 obtain ⟨G, hG⟩ := exG s.nodes (range_at ho)
 have hE := rightM_eq hG (range_at ho)
 have hWt := rweights_told s hl hs (fun p x hx => by
  unfold fieldsAt at hx
  split at hx
  · rename_i n hn
    split at hx
    · rename_i h9
      exact range_kinds ho n (List.mem_of_getElem? hn) h9 x hx
    · simp at hx
  · simp at hx) _ fun l' h he => gList hG (range_at ho) h he
 simp only [ST.av_eq, scells_mk, List.map_cons, List.map_nil] at hWt
 have hGl : (((List.range s.nodes.length).map G).map iPV).length = s.nodes.length := by simp
 have hGx : ∀ i, i < s.nodes.length → (((List.range s.nodes.length).map G).map iPV)[i]? = some (iPV (G i)) := fun i hi => by rw [List.getElem?_map, List.getElem?_map, List.getElem?_range hi]; rfl
 generalize ((List.range s.nodes.length).map G).map iPV = W at hWt hGl hGx
 have hnm : ∀ i, (namesM (s.nodes.take i)).length ≤ 1000000 := fun i => by
  have := names_len (s.nodes.take i)
  rw [List.length_take] at this
  omega
 refine VC.toldP ent_52 Tryz.func52 rfl Tryz.ntmps52 fun hb => ?_
 clear hb
 refine walkG ?_
 refine walkC (hO) ?_
 refine walkB ?_
 refine walkC (hWt) ?_
 refine walkG ?_
 refine VC.nil 4 9 1 (by rfl) (by trivial) (by rfl) ?_
 refine VC.loop (ι := {i : Nat // i ≤ s.nodes.length ∧ ∀ (j : Nat) (n : NT), j < i → s.nodes[j]? = some n → nodeM s.nodes n = true ∧ G j ≤ 1000})
  (fun q => [(1, .ref 0 1 0 0), (3, .c (.sl 1 W)), (4, .row 80 (namesM (s.nodes.take q.1)).length), (5, .c (.v (.int .i64 (q.1 : Int))))])
  (fun q => [(0, ⟨false, 24, 2, [s.cells.map .c]⟩), (80, ⟨true, 9, 1, rA sPV (namesM (s.nodes.take q.1))⟩)]) 800 (fun q => s.nodes.length - q.1)
  ⟨0, Nat.zero_le _, fun j n h => by omega⟩ ?_ ?_
 · refine weakXF (And.intro @rA_len (And.intro @rA_sc (And.intro @rA_nil @scells_mk))) ?_
   simp [namesM, rA_nil]
 rintro ⟨i, hi, ht⟩
 simp only []
 refine walkGF (@scells_mk) ?_
 refine VC.cond (by rfl) (by trivial) (fun hc => ?_) (fun hc => ?_)
 · have hlt : i < s.nodes.length := by simp at hc; omega
   obtain ⟨n, hn⟩ : ∃ n, s.nodes[i]? = some n := ⟨s.nodes[i], List.getElem?_eq_getElem hlt⟩
   have hnp : (s.nodes.map NT.cells)[i]? = some n.cells := by rw [List.getElem?_map, hn]; rfl
   have hw : IntKind.i64.wrap ((i : Int) + 1) = (i : Int) + 1 := wrap64_id (by omega) (by omega)
   have hmem := List.mem_of_getElem? hn
   have hNd := rnode_told s n (hs n hmem) (fun h13 k hk => hki n hmem k (by rw [kidsN, if_neg (by omega), if_neg (by omega), if_pos h13]; exact hk)) (hdp n hmem)
   have hNm := rnamed10_told n.kind
   simp only [ST.av_eq, scells_mk, NT.av_eq, ncells_mk, List.map_cons, List.map_nil] at hNd
   have hWx := hGx i hlt
   have hnl : (rA sPV (namesM (s.nodes.take i))).length = (namesM (s.nodes.take i)).length := rA_len _ _
   have hnt := namesM_take hn
   have hni := hnm i
   cases hnn : nodeM s.nodes n with
   | false =>
     have hf : V = false := by
      cases h : V with
      | false => rfl
      | true =>
        rw [hV, hE] at h
        rw [h.2.1 n hmem] at hnn
        exact absurd hnn (by simp)
     subst hf
     rw [hnn] at hNd
     refine walkGF (And.intro @scells_mk (And.intro hnp @ncells_mk)) ?_
     refine walkC (hNd) ?_
     refine walkB ?_
     refine retX Tryz.results52 ?_
     exact .c _
   | true =>
     rw [hnn] at hNd
     refine walkGF (And.intro @scells_mk (And.intro hnp @ncells_mk)) ?_
     refine walkC (hNd) ?_
     refine walkGF (And.intro hWx (And.intro @iPV_eq hGl)) ?_
     refine VC.cond (by rfl) (by trivial) (fun hc2 => ?_) (fun hc2 => ?_)
     · have hf : V = false := by
        cases h : V with
        | false => rfl
        | true =>
          rw [hV, hE] at h
          have := h.2.2.1 i hlt
          simp at hc2
          omega
       subst hf
       refine walkG ?_
       refine retX Tryz.results52 ?_
       exact .c _
     have hg1 : G i ≤ 1000 := by simp at hc2; omega
     refine walkGF (And.intro @scells_mk (And.intro hnp @ncells_mk)) ?_
     refine walkC (hNm) ?_
     refine walkG ?_
     have hnext : ∀ (j : Nat) (m : NT), j < i + 1 → s.nodes[j]? = some m → nodeM s.nodes m = true ∧ G j ≤ 1000 := fun j m hj hm => by
      by_cases hji : j < i
      · exact ht j m hji hm
      · obtain rfl : j = i := by omega
        rw [hn] at hm
        obtain rfl := Option.some.inj hm
        exact ⟨hnn, hg1⟩
     refine VC.cond (by rfl) (by trivial) (fun hc3 => ?_) (fun hc3 => ?_)
     · rw [if_pos hc3] at hnt
       have hr : rA sPV (namesM (s.nodes.take i)) ++ [[.c (.v (.string (str n.name)))]] = rA sPV (namesM (s.nodes.take (i + 1))) := by
        rw [hnt]
        exact rA_one sPV _ n.name
       have hl2 : (namesM (s.nodes.take (i + 1))).length = (namesM (s.nodes.take i)).length + 1 := by rw [hnt]; simp
       refine walkGF (And.intro @scells_mk (And.intro hnp (And.intro @ncells_mk (And.intro hnl (And.intro hr hw))))) ?_
       refine .next ⟨i + 1, by omega, hnext⟩ ?_ (by simp only []; omega)
       refine weakXF (And.intro @rA_len (And.intro @rA_sc (And.intro @scells_mk hl2))) ?_
       exact ⟨cI (by omega), Nat.le_refl _⟩
     · rw [if_neg (by rw [hc3]; simp), List.append_nil] at hnt
       refine walkGF (hw) ?_
       refine .next ⟨i + 1, by omega, hnext⟩ ?_ (by simp only []; omega)
       refine weakXF (And.intro @rA_len (And.intro @rA_sc (And.intro @scells_mk hnt))) ?_
       exact ⟨cI (by omega), Nat.le_refl _⟩
 · have hie : i = s.nodes.length := by simp at hc; omega
   have htk : s.nodes.take i = s.nodes := by rw [hie, List.take_length]
   rw [htk]
   have hnm0 := hnm i
   rw [htk] at hnm0
   have hf : V = decide (namesM s.nodes).Nodup := by
    rw [hV, Bool.eq_iff_iff, hE, decide_eq_true_eq]
    constructor
    · exact fun h => h.2.2.2
    · refine fun h => ⟨ho, fun m hm => ?_, fun j hj => ?_, h⟩
      · obtain ⟨j, hj⟩ := List.getElem?_of_mem hm
        exact (ht j m (by have := (List.getElem?_eq_some_iff.1 hj).1; omega) hj).1
      · exact (ht j _ (by omega) (List.getElem?_eq_getElem hj)).2
   have hO2 := ronce_told (namesM s.nodes) (by omega)
   rw [← hf] at hO2
   have hrl : (rA sPV (namesM s.nodes)).length = (namesM s.nodes).length := rA_len _ _
   refine walkGF (hrl) ?_
   (refine AO.step fun K hK => ?_; simp only [go_sem, Int.reduceBEq, Int.reduceLE, Int.reduceLT, Int.reduceNeg, Nat.reduceAdd, Nat.reduceEqDiff, Nat.reduceLT, Nat.reduceLeDiff, Nat.reduceMul, Nat.reduceSub, reduceCtorEq, ↓reduceIte, hrl]; (first | refine gsel_go ?_ | skip))
   refine .inr (.inl ⟨.c (.v (.bool V)), [.c (.sl 1 ((namesM s.nodes).map sPV))], [80], ⟨by simp [AV.pureL, AV.pureB], rfl, fun k x z h5 h6 => ?_, rfl, hO2⟩, hK _ _ _ ?_⟩)
   · match k with
     | 0 =>
       obtain rfl := Option.some.inj h5
       obtain rfl := Option.some.inj h6
       exact View.row (B := ⟨true, 9, 1, rA sPV (namesM s.nodes)⟩) (es := (namesM s.nodes).map sPV) rfl rfl hrl (rA_pv _ _)
     | k + 1 => simp at h5
   clear hK K
   refine walkG ?_
   refine retX Tryz.results52 ?_
   exact .c _

theorem deep_told : ∀ (m : Nat) (t : JT), SizeOf.sizeOf t ≤ m → tdeep t ≤ 1000 → Told Tryz.prog 54 [t.av] (.c (.v (.int .i64 (tdeep t)))) := by
 intro m
 induction m with
 | zero => intro t ht; cases t; simp at ht
 | succ m ih =>
 intro t ht hd
 cases t with
 | mk k n s ks xs =>
 refine VC.told ent_54 Tryz.func54 rfl Tryz.ntmps54 (by simp) rfl rfl fun hb => ?_
 simp only [JT.av, JT.cells, cellsL_map, List.map_cons, List.map_nil, abd_agg, abd_c, pbd_v, pbd_sl, List.mem_cons, List.not_mem_nil, or_false, forall_eq_or_imp, forall_eq, true_and] at hb ⊢
 have hxl := hb.1.1
 rw [List.length_map] at hxl
 clear hb
 refine walkG ?_
 refine VC.cond (by rfl) (by trivial) (fun hc => ?_) (fun hc => ?_)
 · have hk : k = 5 ∨ k = 6 := by simpa using hc
   have hdd : tdeep (.mk k n s ks xs) = tdeeps 1 xs := by simp [tdeep, hk]
   rw [hdd] at hd ⊢
   clear hc
   refine walkG ?_
   refine VC.loop (ι := {i : Nat // i ≤ xs.length}) (fun i => [(3, .c (.v (.int .i64 (tdeeps 1 (xs.take i.1))))), (15, .c (.sl 5 (xs.map JT.cells))), (16, .c (.v (.int .i64 xs.length))), (17, .c (.v (.int .i64 i.1)))]) (fun _ => []) 0 (fun i => xs.length - i.1) ⟨0, Nat.zero_le _⟩ ?_ ?_
   · simp only [List.take_zero, tdeeps, List.map_nil, Weak, eq_self, used_is, sc_any, sc_c, sc_pp, sc_ref, sc_row, sc_agg, sc_fn, ScL, some_imp, List.forall_mem_map, go_sem, Int.reduceBEq, Int.reduceLE, Int.reduceLT, Int.reduceNeg, Nat.reduceAdd, Nat.reduceEqDiff, Nat.reduceLT, Nat.reduceLeDiff, Nat.reduceMul, Nat.reduceSub, reduceCtorEq, ↓reduceIte]
   rintro ⟨i, hi⟩
   refine walkG ?_
   refine VC.cond (by rfl) (by trivial) (fun hc => ?_) (fun hc => ?_)
   · simp only [decide_eq_true_eq] at hc
     have hlt : i < xs.length := by omega
     obtain ⟨x, hx⟩ : ∃ x, xs[i]? = some x := ⟨xs[i], List.getElem?_eq_getElem hlt⟩
     have hxm := List.mem_of_getElem? hx
     have hle := (tdeeps_le xs 1).2 x hxm
     have hcall := ih x (by
      have h1 := List.sizeOf_lt_of_mem hxm
      simp at ht
      omega) (by omega)
     have hmm : tdeeps 1 (xs.take (i + 1)) = max (tdeeps 1 (xs.take i)) (1 + tdeep x) := by
      rw [← tdeeps_snoc, List.take_add_one, hx]
      rfl
     have hw : IntKind.i64.wrap (1 + (tdeep x : Int)) = 1 + (tdeep x : Int) := wrap64_id (by omega) (by omega)
     have hw2 : IntKind.i64.wrap ((i : Int) + 1) = (i : Int) + 1 := wrap64_id (by omega) (by omega)
     (repeat (first | refine pass ?_ | refine VC.region (by rfl) (by rfl) ?_ | (refine AO.step fun K hK => ?_; simp only [List.getElem?_map, hx, len_cells, take_cells, take_cellsC, go_sem, Int.reduceBEq, Int.reduceLE, Int.reduceLT, Int.reduceNeg, Nat.reduceAdd, Nat.reduceEqDiff, Nat.reduceLT, Nat.reduceLeDiff, Nat.reduceMul, Nat.reduceSub, reduceCtorEq, ↓reduceIte]; (first | refine gsel_skip ?_ | refine gsel_go ?_ | skip); (first | refine hK _ _ _ ?_ | refine ⟨by first | omega | exact ⟨_, rfl, rfl⟩ | exact fun _ => ⟨_, rfl, rfl⟩ | (intro h; simp only [List.getElem?_map, hx, len_cells, take_cells, take_cellsC, h, true_and]; omega) | (clear hK; intro h; simp_all <;> omega), hK _ _ _ ?_⟩); clear hK K) | refine VC.draw mixP (by rfl) (by rfl) ?_ | refine ⟨okd_of (by kernel_rfl), ?_⟩ | refine BQ.other (by decide) ?_ | refine VC.seq ?_ | refine AO.nil ?_ | refine VC.block ?_))
     (refine AO.step fun K hK => ?_; simp only [go_sem, Int.reduceBEq, Int.reduceLE, Int.reduceLT, Int.reduceNeg, Nat.reduceAdd, Nat.reduceEqDiff, Nat.reduceLT, Nat.reduceLeDiff, Nat.reduceMul, Nat.reduceSub, reduceCtorEq, ↓reduceIte, pureL_c]; (first | refine gsel_go ?_ | skip))
     refine .inl ⟨_, hcall, hK _ _ _ ?_⟩
     clear hK K
     refine walkGF (And.intro hw hw2) ?_
     refine .next ⟨i + 1, by omega⟩ ?_ (by simp only []; omega)
     refine weakXF (hmm) ?_
     exact ⟨cI (by omega), cI (by omega)⟩
   · simp only [decide_eq_false_iff_not] at hc
     obtain rfl : i = xs.length := by omega
     refine walkG ?_
     refine ⟨.inr rfl, ?_⟩
     rw [Tryz.results54]
     simp only [resOk, resV, go_sem, simprocAttr]
     rw [List.take_length]
     exact .c _
 · have hk : ¬ (k = 5 ∨ k = 6) := by simpa using hc
   have hdd : tdeep (.mk k n s ks xs) = 0 := by simp [tdeep, hk]
   rw [hdd]
   refine walkG ?_
   refine ⟨.inr rfl, ?_⟩
   rw [Tryz.results54]
   simp only [resOk, resV, go_sem, simprocAttr]
   exact .c _

theorem showOk_of {ns : List NT} (h : ∀ n ∈ ns, SmallN n) (hk : ∀ n ∈ ns, 1 ≤ n.kind ∧ n.kind ≤ 14) : ShowOk ns := fun n hn => by
 obtain ⟨a1, a2, ⟨a3, a4⟩, ⟨a5, a6⟩, a7, a8, a9⟩ := (h n hn).sm
 exact ⟨hk n hn, by omega, ⟨by omega, fun y hy => by have := a4 y hy; omega⟩, ⟨by omega, fun f hf => by have := (a9 f hf).2.1; omega⟩, by omega, by omega⟩
theorem sTree_told (s : ST) (hs : s.sm 1000000) (hok : rightM s = true → ShowOk s.nodes) : Told Tryz.prog 20 [s.av] (.tup [(treeM s).1.av, .c (.v (.int .i64 (treeM s).2))]) := by
 have hR := sRight_told s hs
 have hC := sCopy_told s hs
 unfold treeM
 cases hr : rightM s with
 | false =>
   rw [hr] at hR
   rw [if_neg (by decide), jzero, JT.av_eq, cells_mk]
   rw [ST.av_eq] at hR ⊢
   refine VC.toldP ent_20 Tryz.func20 rfl Tryz.ntmps20 fun hb => ?_
   clear hb
   refine walkGF (And.intro @len_scells (And.intro @take_scells @take_scellsC)) ?_
   refine walkCF (@pureL_c) (hR) ?_
   refine walkB ?_
   refine retX Tryz.results20 ?_
   exact ⟨Frz.aggL (.cons (.c _) (.cons (.c _) (.cons (.c _) (.cons (.nil 5) (.cons (.nil 1) .nil))))), .c _⟩
 | true =>
 rw [hr] at hR
 rw [if_pos rfl]
 have hO := right_ordered hr
 unfold orderedM at hO
 simp only [Bool.and_eq_true, decide_eq_true_eq] at hO
 obtain ⟨_, hns, hroot, hw, _⟩ := hO
 have hT := stree_told s.nodes s.root (hok hr) hs.1 33 s.root 0 ⟨by omega, .inl ⟨by rw [hroot]; rfl, hw⟩⟩ [] false
 rw [show s.root.toNat = 0 by rw [hroot]; rfl, Bool.false_or, show str [] = (⟨#[]⟩ : ByteArray) from rfl] at hT
 have hM0 := mkL_len s.nodes 0
 have hM1 := mkL_len s.nodes (plN s.nodes 33 0 0)
 generalize mkL s.nodes (plN s.nodes 33 0 0) = M1 at hT hM1
 have hmk : List.replicate s.nodes.length [AV.c (.v (.bool false))] = rA blP (mkL s.nodes 0) := by
  have : mkL s.nodes 0 = List.replicate s.nodes.length false := by
   unfold mkL
   apply List.ext_getElem
   · simp
   · intro i h1 h2
     simp
  rw [this]
  simp [rA, blP]
 generalize mkL s.nodes 0 = M0 at hT hM0 hmk
 rw [ST.av_eq] at hR hC ⊢
 rw [scells_mk] at hR hC ⊢
 rw [JT.av_eq]
 obtain ⟨b, hb0⟩ : ∃ b, b = okTr s.nodes 33 0 0 [] := ⟨_, rfl⟩
 rw [← hb0] at hT ⊢
 generalize treeN s.nodes 33 0 0 = y at hT ⊢
 rw [JT.av_eq] at hT
 unfold shB mB at hT
 cases b with
 | true =>
   rw [if_pos rfl]
   refine VC.toldP ent_20 Tryz.func20 rfl Tryz.ntmps20 fun hb => ?_
   clear hb
   refine walkG ?_
   refine walkCF (@pureL_c) (hR) ?_
   refine walkG ?_
   refine VC.condF (by rfl) (by trivial) ?_
   refine walkG ?_
   refine walkCF (@pureL_c) (hC) ?_
   refine walkGF (hmk) ?_
   refine walkLF (And.intro @rA_len (And.intro @rA_ren (And.intro hM0 hM1))) [104, 88] (hT) ?_
   refine walkBF (And.intro @rA_len (And.intro @rA_ren (And.intro hM1 (And.intro @len_cells (And.intro @take_cells @take_cellsC))))) ?_
   refine retXF (And.intro @len_cells @take_cellsC) Tryz.results20 ?_
   exact ⟨Frz.cs _ _, .c _⟩
 | false =>
   rw [if_neg (by decide)]
   refine VC.toldP ent_20 Tryz.func20 rfl Tryz.ntmps20 fun hb => ?_
   clear hb
   refine walkG ?_
   refine walkCF (@pureL_c) (hR) ?_
   refine walkG ?_
   refine VC.condF (by rfl) (by trivial) ?_
   refine walkG ?_
   refine walkCF (@pureL_c) (hC) ?_
   refine walkGF (hmk) ?_
   refine walkLF (And.intro @rA_len (And.intro @rA_ren (And.intro hM0 hM1))) [104, 88] (hT) ?_
   refine walkBF (And.intro @rA_len (And.intro @rA_ren (And.intro hM1 (And.intro @len_cells (And.intro @take_cells @take_cellsC))))) ?_
   refine retX Tryz.results20 ?_
   exact ⟨Frz.aggL (.cons (.c _) (.cons (.c _) (.cons (.c _) (.cons (.nil 5) (.cons (.nil 1) .nil))))), .c _⟩
theorem rTree_told (s : ST) (hs : s.sm 1000000) (hdp : ∀ n ∈ s.nodes, ∀ f ∈ n.fields, tdeep f.dflt ≤ 1000) (hkd : rightM s = true → ∀ n ∈ s.nodes, 1 ≤ n.kind ∧ n.kind ≤ 14) : Told Tryz.prog 21 [s.av] (.tup [(treeM s).1.av, .c (.v (.int .i64 (treeM s).2))]) := by
 have hR := rRight_told s hs hdp
 unfold treeM
 cases hr : rightM s with
 | false =>
   rw [hr] at hR
   rw [if_neg (by decide), jzero, JT.av_eq, cells_mk]
   rw [ST.av_eq] at hR ⊢
   refine VC.toldP ent_21 Tryz.func21 rfl Tryz.ntmps21 fun hb => ?_
   clear hb
   refine walkGF (And.intro @len_scells (And.intro @take_scells @take_scellsC)) ?_
   refine walkCF (@pureL_c) (hR) ?_
   refine walkB ?_
   refine retX Tryz.results21 ?_
   exact ⟨Frz.aggL (.cons (.c _) (.cons (.c _) (.cons (.c _) (.cons (.nil 5) (.cons (.nil 1) .nil))))), .c _⟩
 | true =>
 rw [hr] at hR
 rw [if_pos rfl]
 have hO := right_ordered hr
 unfold orderedM at hO
 simp only [Bool.and_eq_true, decide_eq_true_eq] at hO
 obtain ⟨_, hns, hroot, hw, _⟩ := hO
 have hT := rtree_told s hs (hkd hr) 33 0 0 ⟨by omega, .inl ⟨rfl, hw⟩⟩ []
 rw [show (0 : Int).toNat = 0 from rfl, show str [] = (⟨#[]⟩ : ByteArray) from rfl, show ((0 : Nat) : Int) = 0 from rfl] at hT
 rw [ST.av_eq] at hR hT ⊢
 rw [JT.av_eq]
 obtain ⟨b, hb0⟩ : ∃ b, b = okTr s.nodes 33 0 0 [] := ⟨_, rfl⟩
 rw [← hb0] at hT ⊢
 generalize treeN s.nodes 33 0 0 = y at hT ⊢
 generalize (plN s.nodes 33 0 0 : Int) = z at hT
 rw [JT.av_eq] at hT
 cases b with
 | true =>
   rw [if_pos rfl]
   refine VC.toldP ent_21 Tryz.func21 rfl Tryz.ntmps21 fun hb => ?_
   clear hb
   refine walkGF (And.intro @len_scells (And.intro @take_scells @take_scellsC)) ?_
   refine walkCF (@pureL_c) (hR) ?_
   refine walkBF (And.intro @len_scells (And.intro @take_scells @take_scellsC)) ?_
   refine walkCF (@pureL_c) (hT) ?_
   refine walkBF (And.intro @len_cells (And.intro @take_cells @take_cellsC)) ?_
   refine retXF (And.intro @len_cells @take_cellsC) Tryz.results21 ?_
   exact ⟨Frz.cs _ _, .c _⟩
 | false =>
   rw [if_neg (by decide)]
   refine VC.toldP ent_21 Tryz.func21 rfl Tryz.ntmps21 fun hb => ?_
   clear hb
   refine walkGF (And.intro @len_scells (And.intro @take_scells @take_scellsC)) ?_
   refine walkCF (@pureL_c) (hR) ?_
   refine walkBF (And.intro @len_scells (And.intro @take_scells @take_scellsC)) ?_
   refine walkCF (@pureL_c) (hT) ?_
   refine walkBF (And.intro @len_cells (And.intro @take_cells @take_cellsC)) ?_
   refine retX Tryz.results21 ?_
   exact ⟨Frz.aggL (.cons (.c _) (.cons (.c _) (.cons (.c _) (.cons (.nil 5) (.cons (.nil 1) .nil))))), .c _⟩
theorem sText_told (s : ST) (hF : Fit 200 (treeM s).1) (hT : Told Tryz.prog 20 [s.av] (.tup [(treeM s).1.av, .c (.v (.int .i64 (treeM s).2))])) : Told Tryz.prog 22 [s.av] (.tup [.c (.sl 1 (bytePV (showM s).1)), .c (.v (.int .i64 (showM s).2))]) := by
 have hD := deep_told _ (treeM s).1 (Nat.le_refl _) (by have := hF.dp; omega)
 have hP := print_told (treeM s).1 (sm_le (by omega) _ hF.sm) hF.inr
 unfold showM
 generalize (treeM s).1 = t at *
 generalize (treeM s).2 = e at *
 rw [JT.av_eq] at hT hD hP
 rw [ST.av_eq] at hT ⊢
 by_cases he : e = 0
 · subst he
   rw [if_neg (by decide)]
   by_cases hd : 32 < tdeep t
   · have e1 : decide ((tdeep t : Int) > 32) = true := by simp; omega
     rw [if_pos hd]
     refine VC.toldP ent_22 Tryz.func22 rfl Tryz.ntmps22 fun hb => ?_
     clear hb
     refine walkGF (And.intro @len_scells (And.intro @take_scells @take_scellsC)) ?_
     refine walkCF (@pureL_c) (hT) ?_
     refine walkBF (And.intro @len_cells (And.intro @take_cells @take_cellsC)) ?_
     refine walkCF (@pureL_c) (hD) ?_
     refine walkBF (e1) ?_
     refine retX Tryz.results22 ?_
     exact ⟨.nil 1, .c _⟩
   · have e1 : decide ((tdeep t : Int) > 32) = false := by simp; omega
     rw [if_neg hd]
     refine VC.toldP ent_22 Tryz.func22 rfl Tryz.ntmps22 fun hb => ?_
     clear hb
     refine walkGF (And.intro @len_scells (And.intro @take_scells @take_scellsC)) ?_
     refine walkCF (@pureL_c) (hT) ?_
     refine walkBF (And.intro @len_cells (And.intro @take_cells @take_cellsC)) ?_
     refine walkCF (@pureL_c) (hD) ?_
     refine walkBF (And.intro e1 (And.intro @len_cells (And.intro @take_cells @take_cellsC))) ?_
     refine walkCF (@pureL_c) (hP) ?_
     refine walkB ?_
     refine retX Tryz.results22 ?_
     exact ⟨.c _, .c _⟩
 · have e1 : (e != 0) = true := by simpa using he
   rw [if_pos he]
   refine VC.toldP ent_22 Tryz.func22 rfl Tryz.ntmps22 fun hb => ?_
   clear hb
   refine walkGF (And.intro @len_scells (And.intro @take_scells @take_scellsC)) ?_
   refine walkCF (@pureL_c) (hT) ?_
   refine walkBF (And.intro e1 (And.intro @len_cells (And.intro @take_cells @take_cellsC))) ?_
   refine retX Tryz.results22 ?_
   exact ⟨.nil 1, .c _⟩
theorem rText_told (s : ST) (hF : Fit 200 (treeM s).1) (hl : (tText (treeM s).1).length ≤ 1000000000000000000) (hT : Told Tryz.prog 21 [s.av] (.tup [(treeM s).1.av, .c (.v (.int .i64 (treeM s).2))])) : Told Tryz.prog 23 [s.av] (.tup [.c (.v (.string (str (showM s).1))), .c (.v (.int .i64 (showM s).2))]) := by
 have hD := rdeep_told _ (treeM s).1 (Nat.le_refl _) (by have := hF.dp; omega)
 have hP := rprint_told (treeM s).1 hF.sm (by have := hF.dp; omega) hF.inr hl
 unfold showM
 clear hl
 generalize (treeM s).1 = t at *
 generalize (treeM s).2 = e at *
 rw [JT.av_eq] at hT hD hP
 rw [ST.av_eq] at hT ⊢
 by_cases he : e = 0
 · subst he
   rw [if_neg (by decide)]
   by_cases hd : 32 < tdeep t
   · have e1 : decide ((tdeep t : Int) > 32) = true := by simp; omega
     rw [if_pos hd]
     refine VC.toldP ent_23 Tryz.func23 rfl Tryz.ntmps23 fun hb => ?_
     clear hb
     refine walkGF (And.intro @len_scells (And.intro @take_scells @take_scellsC)) ?_
     refine walkCF (@pureL_c) (hT) ?_
     refine walkBF (And.intro @len_cells (And.intro @take_cells @take_cellsC)) ?_
     refine walkCF (@pureL_c) (hD) ?_
     refine walkBF (e1) ?_
     refine retX Tryz.results23 ?_
     exact ⟨.c _, .c _⟩
   · have e1 : decide ((tdeep t : Int) > 32) = false := by simp; omega
     rw [if_neg hd]
     refine VC.toldP ent_23 Tryz.func23 rfl Tryz.ntmps23 fun hb => ?_
     clear hb
     refine walkGF (And.intro @len_scells (And.intro @take_scells @take_scellsC)) ?_
     refine walkCF (@pureL_c) (hT) ?_
     refine walkBF (And.intro @len_cells (And.intro @take_cells @take_cellsC)) ?_
     refine walkCF (@pureL_c) (hD) ?_
     refine walkBF (And.intro e1 (And.intro @len_cells (And.intro @take_cells @take_cellsC))) ?_
     refine walkCF (@pureL_c) (hP) ?_
     refine walkB ?_
     refine retX Tryz.results23 ?_
     exact ⟨.c _, .c _⟩
 · have e1 : (e != 0) = true := by simpa using he
   rw [if_pos he]
   refine VC.toldP ent_23 Tryz.func23 rfl Tryz.ntmps23 fun hb => ?_
   clear hb
   refine walkGF (And.intro @len_scells (And.intro @take_scells @take_scellsC)) ?_
   refine walkCF (@pureL_c) (hT) ?_
   refine walkBF (And.intro e1 (And.intro @len_cells (And.intro @take_cells @take_cellsC))) ?_
   refine retX Tryz.results23 ?_
   exact ⟨.c _, .c _⟩

def w17n : NT := ⟨10, [110, 46, 101], [], [], [[65]], false, [], 0, 0, []⟩
def w17 : ST := ⟨[w17n], 0⟩
def b17 : List UInt8 := [123, 34, 116, 121, 112, 101, 34, 58, 34, 101, 110, 117, 109, 34, 44, 34, 110, 97, 109, 101, 34, 58, 34, 101, 34, 44, 34, 110, 97, 109, 101, 115, 112, 97, 99, 101, 34, 58, 34, 110, 34, 44, 34, 115, 121, 109, 98, 111, 108, 115, 34, 58, 91, 34, 65, 34, 93, 125]
def t17 : JT := objJ [(aType, textJ [101, 110, 117, 109]), (aName, textJ [101]), (aSpace, textJ [110]), (aSymbols, textsJ [[65]])]
theorem w17_n : nodeM w17.nodes w17n = true := by
 unfold nodeM
 rw [if_neg (show ¬ w17n.kind = 9 by decide)]
 decide +kernel
theorem w17_right : rightM w17 = true := by
 have h1 : orderedM w17 = true := by decide +kernel
 have h2 : diffM fullM (namesM w17.nodes) = true := by decide +kernel
 have h3 : rightL w17.nodes w17.nodes 0 (List.replicate w17.nodes.length 0) = true := by
  rw [show rightL w17.nodes w17.nodes = rightL w17.nodes [w17n] from rfl]
  rw [rightL, rightL, w17_n]
  decide +kernel
 unfold rightM
 rw [h1, h2, h3]
 rfl
theorem w17_small : ∀ n ∈ w17.nodes, SmallN n := by
 intro n hn
 simp only [w17, List.mem_cons, List.not_mem_nil, or_false] at hn
 subst hn
 exact ⟨⟨by decide, by decide, ⟨by decide, by simp [w17n]⟩, ⟨by decide, by simp [w17n]⟩, by decide, by decide, by simp [w17n]⟩, by simp [w17n], by simp [w17n], by simp [w17n], by decide, by decide⟩
theorem w17_sm : w17.sm 2500 := ⟨by decide, fun n hn => (w17_small n hn).sm⟩
theorem w17_tree : treeM w17 = (t17, 0) := by
 unfold treeM
 rw [if_pos w17_right, if_pos (by decide +kernel)]
 rfl
theorem w17_text : showM w17 = (b17, 0) := by
 have hr : jR t17 = true := by rw [jR_shape]; decide +kernel
 have ht : tText t17 = b17 := by decide +kernel
 unfold showM
 rw [w17_tree]
 simp only []
 rw [if_neg (by decide), if_neg (by decide +kernel), print_text, if_pos hr, ht, if_pos (by decide)]
theorem text17row_told : ToldM Tryz.prog 22 [.agg [.row 1000000 1, .c (.v (.int .i64 0))]]
  [⟨true, 33, 10, [[.c (.v (.int .i64 10)), .c (.v (.string ⟨#[110, 46, 101]⟩)), .c (.v (.slice none 0 0)), .c (.v (.slice none 0 0)), .row 1000001 1, .c (.v (.bool false)), .c (.v (.string ⟨#[]⟩)), .c (.v (.int .i64 0)), .c (.v (.int .i64 0)), .c (.v (.slice none 0 0))]]⟩,
    ⟨true, 9, 1, [[.c (.v (.string ⟨#[65]⟩))]]⟩] [none, none] (.tup [.c (.sl 1 (bytePV b17)), .c (.v (.int .i64 0))]) := by
 have hsm := ssm_le' w17_sm
 have hT := sTree_told w17 hsm fun hr => showOk_of w17_small (right_show w17_sm hr)
 have hF := (treeM_fit (s := w17) (by decide) w17_small).1
 have hX := sText_told w17 hF hT
 have hM := w17_text
 have hD := deep_told _ t17 (Nat.le_refl _) (by decide +kernel)
 have hP := print_told t17 (by rw [w17_tree] at hF; exact sm_le (by omega) _ hF.sm) (by rw [w17_tree] at hF; exact hF.inr)
 have hp : mPrint t17 = (b17, 0) := by
  have hr : jR t17 = true := by rw [jR_shape]; decide +kernel
  have ht : tText t17 = b17 := by decide +kernel
  rw [print_text, if_pos hr, ht, if_pos (by decide)]
 rw [hp] at hP
 rw [w17_tree] at hT
 have e1 : decide ((tdeep t17 : Int) > 32) = false := by decide +kernel
 clear hX hM hF hp
 simp only [] at hP hT
 generalize t17 = t at *
 generalize b17 = b at *
 rw [JT.av_eq] at hT hD hP
 rw [ST.av_eq, scells_mk] at hT
 refine VC.toldXF (@rA_len) ent_22 [] Tryz.func22 rfl Tryz.ntmps22 fun hb hbL => ?_
 clear hb hbL
 refine VC.frz [1000001] [(0, .agg [.row 1000000 1, .c (.v (.int .i64 0))])] [(1000000, ⟨true, 33, 10, [w17n.cells.map .c]⟩)] 0 ?_ ?_
 · simp only [rA_sc, rA_len, WeakF, used_is, sc_any, sc_c, sc_pp, sc_ref, sc_row, sc_agg, sc_fn, ScL, some_imp, List.forall_mem_map, go_sem, Int.reduceBEq, Int.reduceLE, Int.reduceLT, Int.reduceNeg, Nat.reduceAdd, Nat.reduceEqDiff, Nat.reduceLT, Nat.reduceLeDiff, Nat.reduceMul, Nat.reduceSub, reduceCtorEq, ↓reduceIte]
   exact ⟨.same _, .one (.cons (.same _) (.cons (.same _) (.cons (.nil 1) (.cons (.nil 9) (.cons (.row (B := ⟨true, 9, 1, [[.c (.v (.string ⟨#[65]⟩))]]⟩) (es := [sPV [65]]) (by simp) rfl rfl rfl rfl) (.cons (.same _) (.cons (.same _) (.cons (.same _) (.cons (.same _) (.cons (.nil 1) .nil)))))))))) (cellish_map _)⟩
 refine VC.frz [1000000] [(0, .agg ([.sl 10 (w17.nodes.map NT.cells), .v (.int .i64 w17.root)].map .c))] [] 0 ?_ ?_
 · simp only [rA_sc, rA_len, WeakF, used_is, sc_any, sc_c, sc_pp, sc_ref, sc_row, sc_agg, sc_fn, ScL, some_imp, List.forall_mem_map, go_sem, Int.reduceBEq, Int.reduceLE, Int.reduceLT, Int.reduceNeg, Nat.reduceAdd, Nat.reduceEqDiff, Nat.reduceLT, Nat.reduceLeDiff, Nat.reduceMul, Nat.reduceSub, reduceCtorEq, ↓reduceIte]
   exact FV.aggL (.cons (.row (B := ⟨true, 33, 10, [w17n.cells.map .c]⟩) (es := w17.nodes.map NT.cells) (by simp) rfl rfl rfl rfl) (.cons (.same _) .nil))
 refine walkG ?_
 refine walkCF (@pureL_c) (hT) ?_
 refine walkBF (And.intro @len_cells (And.intro @take_cells @take_cellsC)) ?_
 refine walkCF (@pureL_c) (hD) ?_
 refine walkBF (And.intro e1 (And.intro @len_cells (And.intro @take_cells @take_cellsC))) ?_
 refine walkCF (@pureL_c) (hP) ?_
 refine walkB ?_
 refine retX Tryz.results22 ?_
 exact ⟨.c _, .c _⟩
theorem works17_told : Told Tryz.prog 19 [] (.c (.v (.bool true))) := by
 have hR := text17row_told
 have hpv : bytesOk (bytePV b17) = True := eq_true (bytePV_ok b17)
 have hs : (⟨b17.toArray⟩ : ByteArray).toList = b17 := str_toList b17
 have hs2 : (⟨#[123, 34, 116, 121, 112, 101, 34, 58, 34, 101, 110, 117, 109, 34, 44, 34, 110, 97, 109, 101, 34, 58, 34, 101, 34, 44, 34, 110, 97, 109, 101, 115, 112, 97, 99, 101, 34, 58, 34, 110, 34, 44, 34, 115, 121, 109, 98, 111, 108, 115, 34, 58, 91, 34, 65, 34, 93, 125]⟩ : ByteArray).toList = b17 := hs
 generalize b17 = b at *
 have hbb : (b == b) = true := by simp
 refine VC.toldP ent_19 Tryz.func19 rfl Tryz.ntmps19 fun hb => ?_
 clear hb
 refine walkG ?_
 refine walkL [24, 8] (hR) ?_
 (repeat (first | refine pass ?_ | refine VC.region (by rfl) (by rfl) ?_ | (refine AO.step fun K hK => ?_; simp only [bytesOf_pv, hpv, bstr, hs, hs2, hbb, go_sem, Int.reduceBEq, Int.reduceLE, Int.reduceLT, Int.reduceNeg, Nat.reduceAdd, Nat.reduceEqDiff, Nat.reduceLT, Nat.reduceLeDiff, Nat.reduceMul, Nat.reduceSub, reduceCtorEq, ↓reduceIte]; (first | refine gsel_skip ?_ | refine gsel_go ?_ | skip); (first | refine hK _ _ _ ?_ | refine ⟨by first | omega | exact ⟨_, rfl, rfl⟩ | exact fun _ => ⟨_, rfl, rfl⟩ | (intro h; simp only [bytesOf_pv, hpv, bstr, hs, hs2, hbb, h, true_and]; omega) | (clear hK; intro h; simp_all <;> omega), hK _ _ _ ?_⟩); clear hK K) | refine VC.draw mixP (by rfl) (by rfl) ?_ | refine ⟨okd_of (by kernel_rfl), ?_⟩ | refine BQ.other (by decide) ?_ | refine VC.seq ?_ | refine AO.nil ?_ | refine VC.block ?_))
 refine retX Tryz.results19 ?_
 exact .c _

theorem textsL_step {l : List (List UInt8)} {i n : Nat} {y : List UInt8} (hy : l[i]? = some y) (hn : n ≤ 2500) : textsL n (l.drop i) = if 2500 < y.length then 2501 else textsL (n + y.length) (l.drop (i + 1)) := by
 obtain ⟨hlt, rfl⟩ := List.getElem?_eq_some_iff.1 hy
 rw [List.drop_eq_getElem_cons hlt, textsL, if_pos hn]
theorem textsL_end {l : List (List UInt8)} {i n : Nat} (h : ¬ (i < l.length ∧ n ≤ 2500)) : textsL n (l.drop i) = n := by
 by_cases hlt : i < l.length
 · rw [List.drop_eq_getElem_cons hlt, textsL, if_neg (by omega)]
 · rw [List.drop_of_length_le (by omega), textsL]
theorem texts_told (l : List (List UInt8)) : Told Tryz.prog 65 [.c (.sl 1 (l.map sPV)), .c (.v (.int .i64 2500))] (.c (.v (.int .i64 (textsB l)))) := by
 obtain ⟨V, hV⟩ : ∃ V, V = textsB l := ⟨_, rfl⟩
 rw [← hV]
 unfold textsB at hV
 have hw21 : IntKind.i64.wrap (2500 + 1) = 2501 := by rfl
 refine VC.toldP ent_65 Tryz.func65 rfl Tryz.ntmps65 fun hb => ?_
 clear hb
 refine walkG ?_
 refine VC.cond (by rfl) (by trivial) (fun hc => ?_) (fun hc => ?_)
 · have hcc : 2500 < l.length := by simp at hc; omega
   rw [if_pos hcc] at hV
   subst hV
   refine walkGF (hw21) ?_
   refine retX Tryz.results65 ?_
   exact .c _
 have hcc : ¬ 2500 < l.length := by simp at hc; omega
 rw [if_neg hcc] at hV
 clear hc
 refine walkG ?_
 refine VC.loop (ι := {x : Nat × Nat // x.1 ≤ l.length ∧ x.2 ≤ 5000 ∧ textsL x.2 (l.drop x.1) = V}) (fun q => [(0, .c (.sl 1 (l.map sPV))), (1, .c (.v (.int .i64 2500))), (5, .c (.v (.int .i64 (q.1.2 : Int)))), (6, .c (.v (.int .i64 (q.1.1 : Int))))]) (fun _ => []) 800 (fun q => l.length - q.1.1)
  ⟨(0, l.length), Nat.zero_le _, by simp only []; omega, by rw [List.drop_zero]; exact hV.symm⟩ ?_ ?_
 · exact weakZ
 clear hV
 rintro ⟨⟨i, n⟩, hi, hn, hV⟩
 simp only [] at hi hn hV ⊢
 refine walkG ?_
 refine VC.cond (by rfl) (by trivial) (fun hc => ?_) (fun hc => ?_)
 · have hcc : i < l.length ∧ n ≤ 2500 := by simp at hc; omega
   clear hc
   obtain ⟨y, hy⟩ : ∃ y, l[i]? = some y := ⟨l[i], List.getElem?_eq_getElem hcc.1⟩
   have hyp : (l.map sPV)[i]? = some (sPV y) := by rw [List.getElem?_map, hy]; rfl
   rw [textsL_step hy hcc.2] at hV
   have hw : IntKind.i64.wrap ((i : Int) + 1) = (i : Int) + 1 := wrap64_id (by omega) (by omega)
   refine walkGF (And.intro hyp (And.intro @sPV_eq @str_size)) ?_
   refine VC.cond (by rfl) (by trivial) (fun hc2 => ?_) (fun hc2 => ?_)
   · rw [if_pos (by simp at hc2; omega)] at hV
     subst hV
     refine walkGF (hw21) ?_
     refine retX Tryz.results65 ?_
     exact .c _
   · have hyl : y.length ≤ 2500 := by simp at hc2; omega
     rw [if_neg (by omega)] at hV
     have hw2 : IntKind.i64.wrap ((n : Int) + (y.length : Int)) = ((n + y.length : Nat) : Int) := by rw [wrap64_id (by omega) (by omega)]; rfl
     refine walkGF (And.intro hyp (And.intro @sPV_eq (And.intro @str_size (And.intro hw hw2)))) ?_
     refine .next ⟨(i + 1, n + y.length), by simp only []; omega, by simp only []; omega, hV⟩ ?_ (by simp only []; omega)
     simp only [Weak, eq_self, used_is, sc_any, sc_c, sc_pp, sc_ref, sc_row, sc_agg, sc_fn, ScL, some_imp, List.forall_mem_map, go_sem, Int.reduceBEq, Int.reduceLE, Int.reduceLT, Int.reduceNeg, Nat.reduceAdd, Nat.reduceEqDiff, Nat.reduceLT, Nat.reduceLeDiff, Nat.reduceMul, Nat.reduceSub, reduceCtorEq, ↓reduceIte]
     try exact cI (by omega)
 · have hcc : ¬ (i < l.length ∧ n ≤ 2500) := by simp at hc; omega
   rw [textsL_end hcc] at hV
   subst hV
   refine walkG ?_
   refine retX Tryz.results65 ?_
   exact .c _
theorem fieldsB_step {l : List FT} {i n : Nat} {f : FT} (hf : l[i]? = some f) (hn : n ≤ 2500) : fieldsB n (l.drop i) = if 2500 < f.name.length then none else fieldsB (n + f.name.length + textsB f.aliases + tbulk5 0 f.dflt) (l.drop (i + 1)) := by
 obtain ⟨hlt, rfl⟩ := List.getElem?_eq_some_iff.1 hf
 rw [List.drop_eq_getElem_cons hlt, fieldsB, if_pos hn]
theorem fieldsB_end {l : List FT} {i n : Nat} (h : ¬ (i < l.length ∧ n ≤ 2500)) : fieldsB n (l.drop i) = some n := by
 by_cases hlt : i < l.length
 · rw [List.drop_eq_getElem_cons hlt, fieldsB, if_neg (by omega)]
 · rw [List.drop_of_length_le (by omega), fieldsB]
theorem nodesB_end {l : List NT} {i n : Nat} (h : ¬ (i < l.length ∧ n ≤ 2500)) : nodesB n (l.drop i) = n := by
 by_cases hlt : i < l.length
 · rw [List.drop_eq_getElem_cons hlt, nodesB, if_neg (by omega)]
 · rw [List.drop_of_length_le (by omega), nodesB]
theorem nodesB_step {l : List NT} {i n : Nat} {x : NT} (hx : l[i]? = some x) (hn : n ≤ 2500) : nodesB n (l.drop i) = if 2500 < x.name.length ∨ 2500 < x.fields.length ∨ 2500 < x.branches.length ∨ 2500 < x.dflt.length then 2501 else
   match fieldsB (n + x.name.length + x.fields.length + x.branches.length + x.dflt.length + textsB x.aliases + textsB x.symbols) x.fields with | none => 2501 | some m => nodesB m (l.drop (i + 1)) := by
 obtain ⟨hlt, rfl⟩ := List.getElem?_eq_some_iff.1 hx
 rw [List.drop_eq_getElem_cons hlt, nodesB, if_pos hn]
 generalize fieldsB _ _ = F
 cases F <;> rfl
theorem sbulk_told (s : ST) : Told Tryz.prog 33 [s.av, .c (.v (.int .i64 2500))] (.c (.v (.int .i64 (sbulk s)))) := by
 obtain ⟨V, hV⟩ : ∃ V, V = sbulk s := ⟨_, rfl⟩
 rw [← hV]
 unfold sbulk at hV
 have hw21 : IntKind.i64.wrap (2500 + 1) = 2501 := by rfl
 rw [ST.av_eq, scells_mk]
 refine VC.toldP ent_33 Tryz.func33 rfl Tryz.ntmps33 fun hb => ?_
 clear hb
 refine walkG ?_
 refine VC.cond (by rfl) (by trivial) (fun hc => ?_) (fun hc => ?_)
 · have hcc : 2500 < s.nodes.length := by simp at hc; omega
   rw [if_pos hcc] at hV
   subst hV
   refine walkGF (hw21) ?_
   refine retX Tryz.results33 ?_
   exact .c _
 have hcc : ¬ 2500 < s.nodes.length := by simp at hc; omega
 rw [if_neg hcc] at hV
 clear hc
 refine walkG ?_
 refine VC.loop (ι := {x : Nat × Nat // x.1 ≤ s.nodes.length ∧ x.2 ≤ 300000 ∧ nodesB x.2 (s.nodes.drop x.1) = V}) (fun q => [(1, .c (.v (.int .i64 2500))), (2, .ref 0 1 0 0), (5, .c (.v (.int .i64 (q.1.2 : Int)))), (6, .c (.v (.int .i64 (q.1.1 : Int))))])
  (fun q => [(0, ⟨false, 24, 2, [[.c (.sl 10 (s.nodes.map NT.cells)), .c (.v (.int .i64 s.root))]]⟩)]) 800 (fun q => s.nodes.length - q.1.1)
  ⟨(0, s.nodes.length), Nat.zero_le _, by simp only []; omega, by rw [List.drop_zero]; exact hV.symm⟩ ?_ ?_
 · exact weakZ
 clear hV
 rintro ⟨⟨i, b⟩, hi, hb, hV⟩
 simp only [] at hi hb hV ⊢
 refine walkG ?_
 refine VC.cond (by rfl) (by trivial) (fun hc => ?_) (fun hc => ?_)
 · have hcc2 : i < s.nodes.length ∧ b ≤ 2500 := by simp at hc; omega
   clear hc
   obtain ⟨x, hx⟩ : ∃ x, s.nodes[i]? = some x := ⟨s.nodes[i], List.getElem?_eq_getElem hcc2.1⟩
   have hxp : (s.nodes.map NT.cells)[i]? = some x.cells := by rw [List.getElem?_map, hx]; rfl
   rw [nodesB_step hx hcc2.2] at hV
   have hw : IntKind.i64.wrap ((i : Int) + 1) = (i : Int) + 1 := wrap64_id (by omega) (by omega)
   refine walkGF (And.intro hxp (And.intro @ncells_mk @str_size)) ?_
   refine VC.cond (by rfl) (by trivial) (fun hc2 => ?_) (fun hc2 => ?_)
   · rw [if_pos (by simp at hc2; omega)] at hV
     subst hV
     refine walkGF (hw21) ?_
     refine retX Tryz.results33 ?_
     exact .c _
   have hsm : ¬ (2500 < x.name.length ∨ 2500 < x.fields.length ∨ 2500 < x.branches.length ∨ 2500 < x.dflt.length) := by simp at hc2; omega
   rw [if_neg hsm] at hV
   clear hc2
   have hT1 := texts_told x.aliases
   have hT2 := texts_told x.symbols
   have ht1 := textsB_le x.aliases
   have ht2 := textsB_le x.symbols
   generalize textsB x.aliases = t1 at hT1 ht1 hV
   generalize textsB x.symbols = t2 at hT2 ht2 hV
   have w1 : IntKind.i64.wrap ((b : Int) + (x.name.length : Int)) = (b : Int) + (x.name.length : Int) := wrap64_id (by omega) (by omega)
   have w2 : IntKind.i64.wrap ((b : Int) + (x.name.length : Int) + (x.fields.length : Int)) = (b : Int) + (x.name.length : Int) + (x.fields.length : Int) := wrap64_id (by omega) (by omega)
   have w3 : IntKind.i64.wrap ((b : Int) + (x.name.length : Int) + (x.fields.length : Int) + (x.branches.length : Int)) = (b : Int) + (x.name.length : Int) + (x.fields.length : Int) + (x.branches.length : Int) := wrap64_id (by omega) (by omega)
   have w4 : IntKind.i64.wrap ((b : Int) + (x.name.length : Int) + (x.fields.length : Int) + (x.branches.length : Int) + (x.dflt.length : Int)) = (b : Int) + (x.name.length : Int) + (x.fields.length : Int) + (x.branches.length : Int) + (x.dflt.length : Int) := wrap64_id (by omega) (by omega)
   have w5 : IntKind.i64.wrap ((b : Int) + (x.name.length : Int) + (x.fields.length : Int) + (x.branches.length : Int) + (x.dflt.length : Int) + (t1 : Int)) = (b : Int) + (x.name.length : Int) + (x.fields.length : Int) + (x.branches.length : Int) + (x.dflt.length : Int) + (t1 : Int) := wrap64_id (by omega) (by omega)
   have w6 : IntKind.i64.wrap ((b : Int) + (x.name.length : Int) + (x.fields.length : Int) + (x.branches.length : Int) + (x.dflt.length : Int) + (t1 : Int) + (t2 : Int)) = ((b + x.name.length + x.fields.length + x.branches.length + x.dflt.length + t1 + t2 : Nat) : Int) := by rw [wrap64_id (by omega) (by omega)]; rfl
   obtain ⟨b0, hb0⟩ : ∃ b0, b0 = b + x.name.length + x.fields.length + x.branches.length + x.dflt.length + t1 + t2 := ⟨_, rfl⟩
   have hb0l : b0 ≤ 30000 := by omega
   rw [← hb0] at hV w6
   clear hb0
   refine walkGF (And.intro @str_size (And.intro w1 (And.intro w2 (And.intro w3 (And.intro w4 (And.intro w5 w6)))))) ?_
   refine walkC (hT1) ?_
   refine walkGF (w5) ?_
   refine walkC (hT2) ?_
   refine walkGF (w6) ?_
   clear hT1 hT2 w1 w2 w3 w4 w5 w6 ht1 ht2
   obtain ⟨F, hF⟩ : ∃ F, F = fieldsB b0 x.fields := ⟨_, rfl⟩
   rw [← hF] at hV
   have hFl : ∀ m, F = some m → m ≤ 300000 := fun m hm => fieldsB_le x.fields b0 m (by omega) (hF ▸ hm)
   refine VC.loop (ι := {y : Nat × Nat // y.1 ≤ x.fields.length ∧ y.2 ≤ 300000 ∧ fieldsB y.2 (x.fields.drop y.1) = F})
    (fun q => [(1, .c (.v (.int .i64 2500))), (2, .ref 0 1 0 0), (5, .c (.v (.int .i64 (q.1.2 : Int)))), (6, .c (.v (.int .i64 (i : Int)))), (7, .ref 920 1 0 0), (8, .c (.v (.int .i64 (q.1.1 : Int))))])
    (fun q => [(0, ⟨false, 24, 2, [[.c (.sl 10 (s.nodes.map NT.cells)), .c (.v (.int .i64 s.root))]]⟩), (920, ⟨false, 33, 10, [x.cells.map .c]⟩)]) 4000 (fun q => x.fields.length - q.1.1)
    ⟨(0, b0), Nat.zero_le _, by simp only []; omega, by rw [List.drop_zero]; exact hF.symm⟩ ?_ ?_
   · exact weakZF (@ncells_mk)
   clear hF
   rintro ⟨⟨k, c⟩, hk, hc, hF⟩
   simp only [] at hk hc hF ⊢
   refine walkGF (@ncells_mk) ?_
   refine VC.cond (by rfl) (by trivial) (fun hc2 => ?_) (fun hc2 => ?_)
   · have hcc3 : k < x.fields.length ∧ c ≤ 2500 := by simp at hc2; omega
     clear hc2
     obtain ⟨f, hf⟩ : ∃ f, x.fields[k]? = some f := ⟨x.fields[k], List.getElem?_eq_getElem hcc3.1⟩
     have hfp : (x.fields.map FT.cells)[k]? = some f.cells := by rw [List.getElem?_map, hf]; rfl
     rw [fieldsB_step hf hcc3.2] at hF
     have hwk : IntKind.i64.wrap ((k : Int) + 1) = (k : Int) + 1 := wrap64_id (by omega) (by omega)
     refine walkGF (And.intro @ncells_mk (And.intro hfp (And.intro @fcells_mk @str_size))) ?_
     refine VC.cond (by rfl) (by trivial) (fun hc2 => ?_) (fun hc2 => ?_)
     · rw [if_pos (by simp at hc2; omega)] at hF
       subst hF
       simp only [] at hV
       subst hV
       refine walkGF (hw21) ?_
       refine retX Tryz.results33 ?_
       exact .c _
     have hnl : f.name.length ≤ 2500 := by simp at hc2; omega
     rw [if_neg (by omega)] at hF
     clear hc2
     have hT := texts_told f.aliases
     have ht := textsB_le f.aliases
     have hB := bulk_told5 _ f.dflt (Nat.le_refl _) 0 0 (by omega) rfl
     have hbt := tbulk5_top f.dflt
     generalize textsB f.aliases = t at hT ht hF
     generalize tbulk5 0 f.dflt = u at hB hbt hF
     simp only [JT.av_eq] at hB
     have w1 : IntKind.i64.wrap ((c : Int) + (f.name.length : Int)) = (c : Int) + (f.name.length : Int) := wrap64_id (by omega) (by omega)
     have w2 : IntKind.i64.wrap ((c : Int) + (f.name.length : Int) + (t : Int)) = (c : Int) + (f.name.length : Int) + (t : Int) := wrap64_id (by omega) (by omega)
     have w3 : IntKind.i64.wrap ((c : Int) + (f.name.length : Int) + (t : Int) + (u : Int)) = ((c + f.name.length + t + u : Nat) : Int) := by rw [wrap64_id (by omega) (by omega)]; rfl
     refine walkGF (And.intro @ncells_mk (And.intro hfp (And.intro @fcells_mk (And.intro @str_size w1)))) ?_
     refine walkC (hT) ?_
     refine walkGF (And.intro @ncells_mk (And.intro hfp (And.intro @fcells_mk (And.intro w2 (And.intro @len_cells (And.intro @take_cells @take_cellsC)))))) ?_
     refine walkCF (@pureL_c) (hB) ?_
     refine walkGF (And.intro w3 hwk) ?_
     refine .next ⟨(k + 1, c + f.name.length + t + u), by simp only []; omega, by simp only []; omega, hF⟩ ?_ (by simp only []; omega)
     simp only [ncells_mk, Weak, eq_self, used_is, sc_any, sc_c, sc_pp, sc_ref, sc_row, sc_agg, sc_fn, ScL, some_imp, List.forall_mem_map, go_sem, Int.reduceBEq, Int.reduceLE, Int.reduceLT, Int.reduceNeg, Nat.reduceAdd, Nat.reduceEqDiff, Nat.reduceLT, Nat.reduceLeDiff, Nat.reduceMul, Nat.reduceSub, reduceCtorEq, ↓reduceIte]
     try exact cI (by omega)
   · have hcc3 : ¬ (k < x.fields.length ∧ c ≤ 2500) := by simp at hc2; omega
     rw [fieldsB_end hcc3] at hF
     subst hF
     simp only [] at hV
     refine walkGF (hw) ?_
     refine .next ⟨(i + 1, c), by simp only []; omega, hc, hV⟩ ?_ (by simp only []; omega)
     simp only [Weak, eq_self, used_is, sc_any, sc_c, sc_pp, sc_ref, sc_row, sc_agg, sc_fn, ScL, some_imp, List.forall_mem_map, go_sem, Int.reduceBEq, Int.reduceLE, Int.reduceLT, Int.reduceNeg, Nat.reduceAdd, Nat.reduceEqDiff, Nat.reduceLT, Nat.reduceLeDiff, Nat.reduceMul, Nat.reduceSub, reduceCtorEq, ↓reduceIte]
     try exact cI (by omega)
 · have hcc2 : ¬ (i < s.nodes.length ∧ b ≤ 2500) := by simp at hc; omega
   rw [nodesB_end hcc2] at hV
   subst hV
   refine walkG ?_
   refine retX Tryz.results33 ?_
   exact .c _
theorem sgreat_told (s : ST) : Told Tryz.prog 8 [s.av] (.c (.v (.bool (decide (2500 < (sbulk s : Int)))))) := by
 have hB := sbulk_told s
 simp only [ST.av_eq, scells_mk, List.map_cons, List.map_nil] at hB
 rw [ST.av_eq, scells_mk]
 refine VC.toldP ent_8 Tryz.func8 rfl Tryz.ntmps8 fun hb => ?_
 clear hb
 refine walkG ?_
 refine walkC (hB) ?_
 refine walkG ?_
 refine retX Tryz.results8 ?_
 exact .c _

def ST.inr (s : ST) : Prop := ∀ n ∈ s.nodes, ∀ f ∈ n.fields, f.dflt.inr
theorem ty_fieldI {ps : List PV} (h : TyPV Tryz.prog 38 ps) : ∃ f : FT, f.dflt.inr ∧ ps = f.cells := by
 obtain ⟨f, rfl⟩ := ty_field h
 obtain ⟨hl, hf⟩ := ty_fields h tyA_38 rfl
 obtain ⟨e, he, h4⟩ := (ty_json (hf 4 _ _ rfl _ tyA_36)).1 rfl
 obtain ⟨a0, a1, a2, a3, a4⟩ := f
 have hc : (FT.mk a0 a1 a2 a3 e).cells = (FT.mk a0 a1 a2 a3 a4).cells := by
  have : ((FT.mk a0 a1 a2 a3 a4).cells.drop 4).take 5 = a4.cells := by
   simp only [fcells_mk, List.drop_succ_cons, List.drop_zero]
   exact take_cells a4
  rw [this] at h4
  rw [fcells_mk, fcells_mk, h4]
 exact ⟨⟨a0, a1, a2, a3, e⟩, he, hc.symm⟩
theorem ty_fieldsI {ps : List PV} (h : TyPV Tryz.prog 30 ps) : ∃ fs : List FT, (∀ f ∈ fs, f.dflt.inr) ∧ ps = [.sl 9 (fs.map FT.cells)] := by
 obtain ⟨es, rfl, hx⟩ := ty_sl h Tryz.underlying30
 rw [cells_of tyA_38]
 obtain ⟨ns, hns, rfl⟩ := list_mapP (f := FT.cells) (p := fun f => f.dflt.inr) fun q hq => ty_fieldI (hx q hq)
 exact ⟨ns, hns, rfl⟩
theorem ty_nodeI {ps : List PV} (h : TyPV Tryz.prog 33 ps) : ∃ n : NT, (∀ f ∈ n.fields, f.dflt.inr) ∧ ps = n.cells := by
 obtain ⟨n, rfl⟩ := ty_node h
 obtain ⟨hl, hf⟩ := ty_fields h tyA_33 rfl
 obtain ⟨fs, hfs, h3⟩ := ty_fieldsI (hf 3 _ _ rfl _ tyA_30)
 have h3 : [PV.sl 9 (n.fields.map FT.cells)] = [PV.sl 9 (fs.map FT.cells)] := h3
 refine ⟨{ n with fields := fs }, hfs, ?_⟩
 rw [ncells_mk, ncells_mk]
 simp only [List.cons.injEq, and_true, true_and]
 exact (List.cons.inj h3).1
theorem arg_schemaI {x : AV} (h : TyAV Tryz.prog 24 x) : ∃ s : ST, s.inr ∧ x = s.av := by
 obtain ⟨s, rfl⟩ := arg_schema h
 obtain ⟨ps, h1, h2⟩ := h
 have hps : ps = s.cells := by
  rcases h2 with ⟨_, h2⟩ | ⟨h2, _⟩
  · rw [ST.av_eq] at h2
    have : s.cells.map AV.c = ps.map AV.c := by simpa using h2
    exact ((List.map_inj_right (fun a b h => by simpa using h)).1 this).symm
  · exact absurd Tryz.underlying24 (h2 _)
 subst hps
 obtain ⟨hl, hf⟩ := ty_fields h1 tyA_24 rfl
 obtain ⟨es, h3, hx⟩ := ty_sl (hf 0 _ _ rfl _ tyA_22) Tryz.underlying22
 rw [cells_of tyA_33] at h3
 obtain ⟨ns, hns, rfl⟩ := list_mapP (f := NT.cells) (p := fun n => ∀ f ∈ n.fields, f.dflt.inr) fun q hq => ty_nodeI (hx q hq)
 have h3 : [PV.sl 10 (s.nodes.map NT.cells)] = [PV.sl 10 (ns.map NT.cells)] := h3
 refine ⟨⟨ns, s.root⟩, hns, ?_⟩
 rw [ST.av_eq, ST.av_eq, scells_mk, scells_mk, (List.cons.inj h3).1]

theorem right_small {s : ST} (h : sbulk s ≤ 2500) (hi : s.inr) (hr : rightM s = true) : ∀ n ∈ s.nodes, SmallN n :=
 sbulk_small h hi fun n hn => by
  have hN := right_nodes hr n hn
  unfold nodeM at hN
  simp only [Bool.and_eq_true, decide_eq_true_eq] at hN
  obtain ⟨⟨k1, k2, hb⟩, _, hK⟩ := hN
  have hsz : 0 ≤ n.size ∧ n.size ≤ 1000 := by
   by_cases h14 : n.kind = 14
   · rw [if_neg (by omega), if_neg (by omega), if_pos h14] at hK
     simpa using hK
   · unfold bareM at hb
     simp only [Bool.and_eq_true, Bool.or_eq_true, beq_iff_eq] at hb
     have := hb.2.2.2.1
     omega
  exact ⟨by omega, by omega⟩
theorem treeM_ok {s : ST} (h : sbulk s ≤ 2500) (hi : s.inr) : Fit 200 (treeM s).1 ∧ (tText (treeM s).1).length ≤ 1000000000000000000 := by
 by_cases hr : rightM s = true
 · exact treeM_fit (sbulk_sm h).1 (right_small h hi hr)
 · unfold treeM
   rw [if_neg hr]
   exact ⟨fit_zero _, by decide⟩
theorem shows_told (s : ST) (hi : s.inr) : Told Tryz.prog 5 [s.av] (.c (.v (.bool true))) := by
 have hG := sgreat_told s
 by_cases hs : 2500 < sbulk s
 · have e1 : decide (2500 < (sbulk s : Int)) = true := by simp; omega
   rw [e1] at hG
   rw [ST.av_eq] at hG ⊢
   refine VC.toldP ent_5 Tryz.func5 rfl Tryz.ntmps5 fun hb => ?_
   clear hb
   refine walkGF (And.intro @len_scells (And.intro @take_scells @take_scellsC)) ?_
   refine walkCF (@pureL_c) (hG) ?_
   refine walkB ?_
   refine walkC (works17_told) ?_
   refine walkG ?_
   refine retX Tryz.results5 ?_
   exact .c _
 have e1 : decide (2500 < (sbulk s : Int)) = false := by simp; omega
 rw [e1] at hG
 have hbk : sbulk s ≤ 2500 := by omega
 have hsm := sbulk_sm hbk
 have hsm' := ssm_le' hsm
 obtain ⟨hF, hl⟩ := treeM_ok hbk hi
 have hA := sTree_told s hsm' fun hr => showOk_of (right_small hbk hi hr) (right_show hsm hr)
 have hB := rTree_told s hsm' (sbulk_deep hbk) (right_show hsm)
 have hX := sText_told s hF hA
 have hY := rText_told s hF hl hB
 have hJ := rsame_told _ (treeM s).1 (treeM s).1 (Nat.le_refl _)
 rw [jeq_self] at hJ
 clear hF hl hsm hsm'
 generalize (treeM s).1 = t at *
 generalize (treeM s).2 = e at *
 generalize (showM s).1 = S at *
 generalize (showM s).2 = E at *
 have hpv : bytesOk (bytePV S) = True := eq_true (bytePV_ok S)
 have hS2 : (⟨S.toArray⟩ : ByteArray).toList = S := str_toList S
 have hSS : (S == S) = true := by simp
 have hE : (E == E) = true := by simp
 have he : (e == e) = true := by simp
 rw [JT.av_eq] at hA hB hJ
 rw [ST.av_eq] at hG hA hB hX hY ⊢
 refine VC.toldP ent_5 Tryz.func5 rfl Tryz.ntmps5 fun hb => ?_
 clear hb
 refine walkGF (And.intro @len_scells (And.intro @take_scells @take_scellsC)) ?_
 refine walkCF (@pureL_c) (hG) ?_
 refine walkBF (And.intro @len_scells (And.intro @take_scells @take_scellsC)) ?_
 refine walkCF (@pureL_c) (hA) ?_
 refine walkGF (And.intro @len_scells (And.intro @take_scells (And.intro @take_scellsC (And.intro @len_cells (And.intro @take_cells @take_cellsC))))) ?_
 refine walkCF (@pureL_c) (hB) ?_
 refine walkGF (And.intro @len_scells (And.intro @take_scells (And.intro @take_scellsC (And.intro @len_cells (And.intro @take_cells @take_cellsC))))) ?_
 refine walkCF (@pureL_c) (hX) ?_
 refine walkGF (And.intro @len_scells (And.intro @take_scells @take_scellsC)) ?_
 refine walkCF (@pureL_c) (hY) ?_
 refine walkGF (And.intro @len_cells (And.intro @take_cells @take_cellsC)) ?_
 refine walkCF (@pureL_c) (hJ) ?_
 (repeat (first | refine pass ?_ | refine VC.region (by rfl) (by rfl) ?_ | (refine AO.step fun K hK => ?_; simp only [bytesOf_pv, hpv, bstr, str, hS2, hSS, hE, he, go_sem, Int.reduceBEq, Int.reduceLE, Int.reduceLT, Int.reduceNeg, Nat.reduceAdd, Nat.reduceEqDiff, Nat.reduceLT, Nat.reduceLeDiff, Nat.reduceMul, Nat.reduceSub, reduceCtorEq, ↓reduceIte]; (first | refine gsel_skip ?_ | refine gsel_go ?_ | skip); (first | refine hK _ _ _ ?_ | refine ⟨by first | omega | exact ⟨_, rfl, rfl⟩ | exact fun _ => ⟨_, rfl, rfl⟩ | (intro h; simp only [bytesOf_pv, hpv, bstr, str, hS2, hSS, hE, he, h, true_and]; omega) | (clear hK; intro h; simp_all <;> omega), hK _ _ _ ?_⟩); clear hK K) | refine VC.draw mixP (by rfl) (by rfl) ?_ | refine ⟨okd_of (by kernel_rfl), ?_⟩ | refine BQ.other (by decide) ?_ | refine VC.seq ?_ | refine AO.nil ?_ | refine VC.block ?_))
 refine walkC (works17_told) ?_
 refine walkG ?_
 refine retX Tryz.results5 ?_
 exact .c _
section

theorem gWords : Tryz.prog.globalNamed "avocet/naming.words" = some 0 := by kernel_rfl
theorem tWords : (Tryz.prog.globals[0]?).map (·.type) = some 186 := by kernel_rfl
theorem uWords : Tryz.prog.underlying 186 = some (.array 15 9) := by kernel_rfl
theorem cWords : Tryz.prog.cellsOf 9 = 1 := by kernel_rfl
theorem onlyWords : ((List.range Tryz.prog.globals.size).all fun g => g == 0 || (glob Tryz.prog g).isNone) = true := by kernel_rfl
theorem globWords : glob Tryz.prog 0 = some (kwords.map fun w => PV.v (.string (str w))) := by kernel_rfl
theorem words_cells {W : World} (h : laidMetH Tryz.prog [("avocet/naming.words", Rows.laid_avocet_naming_words)] W) :
  ∃ cs : Array Value, (∀ i, W.cell? ⟨0, i, none⟩ = cs[i]?) ∧ cs.size = 15 ∧ ∀ (i : Nat) (w : List UInt8), kwords[i]? = some w → cs[i]? = some (.string (str w)) := by
 rw [MakeChecks.laidMetH_plain _ _ _ (by kernel_rfl)] at h
 obtain ⟨ps, ⟨g0, t0, cs0, f0, p0, q0, hg0, ht0, hv0, hd0, _, _⟩, _, _⟩ := h
 obtain rfl := Option.some.inj (gWords.symm.trans hg0)
 obtain rfl := Option.some.inj (tWords.symm.trans ht0)
 obtain ⟨xs, m1, rfl, hx1, hlen, hn15, hel⟩ := DataW.trod_array uWords hd0
 simp only [Rows.laid_avocet_naming_words, Prod.mk.injEq, DataW.agg.injEq] at hx1
 have hx2 : kwords.map (fun w => (DataW.lit (.string w) : DataW Unit)) = xs.map (·.1) := hx1.1
 have hat : ∀ i, i < 15 → ∃ s : ByteArray, cs0[i]? = some (.string s) ∧ ∃ x, xs[i]? = some x ∧ x.1 = .lit (.string s.data.toList) := by
  intro i hi
  obtain ⟨x, hx⟩ : ∃ x, xs[i]? = some x := ⟨xs[i]'(by omega), List.getElem?_eq_getElem (by omega)⟩
  have h1 := hel i hi
  rw [hx] at h1
  obtain ⟨s, e1, e2, _⟩ := DataW.trod_string Tryz.underlying9 h1
  rw [cWords, Nat.mul_one] at e1
  refine ⟨s, ?_, x, hx, by rw [e2]⟩
  have h2 : (cs0.toList.drop i)[0]? = some (.string s) := by
   have h3 : ((cs0.toList.drop i).take 1)[0]? = some (.string s) := by rw [e1]; rfl
   rwa [List.getElem?_take_of_lt (by decide)] at h3
  rw [List.getElem?_drop, Nat.add_zero] at h2
  simpa using h2
 refine ⟨cs0, fun i => World.var?_cell hg0 hv0 i, ?_, fun i w hw => ?_⟩
 · have := hlen
   rw [show Tryz.prog.cellsOf 186 = 15 by kernel_rfl] at this
   simpa using this
 · have hi : i < 15 := (List.getElem?_eq_some_iff.1 hw).1
   obtain ⟨s, h1, x, h2, h3⟩ := hat i hi
   have h4 : (xs.map (·.1))[i]? = some (.lit (.string w)) := by rw [← hx2, List.getElem?_map, hw]; rfl
   rw [List.getElem?_map, h2] at h4
   have h5 : x.1 = .lit (.string w) := Option.some.inj h4
   rw [h3] at h5
   have h6 : s.data.toList = w := Lit.string.inj (DataW.lit.inj h5)
   have h7 : s = str w := by
    apply ByteArray.ext
    rw [← h6]
    show s.data = s.data.toList.toArray
    exact (Array.toArray_toList).symm
   rw [h1, h7]
theorem gok_words {W : World} (h : laidMetH Tryz.prog [("avocet/naming.words", Rows.laid_avocet_naming_words)] W) : GOk Tryz.prog W (fun k => k < W.heap.size) := by
 obtain ⟨cs, h1, h2, h3⟩ := words_cells h
 intro g cells hc
 have hg : g = 0 := by
  by_cases hlt : g < Tryz.prog.globals.size
  · have := List.all_eq_true.1 onlyWords g (List.mem_range.2 hlt)
    rw [hc] at this
    simpa using this
  · unfold glob at hc
    rw [Array.getElem?_eq_none (by omega)] at hc
    simp at hc
 subst hg
 rw [globWords] at hc
 obtain rfl := Option.some.inj hc
 refine ⟨?_, cs.toList, fun j hj => ?_, ⟨by simp [h2, kwords], fun j p v hp hv => ?_⟩⟩
 · have h4 := h1 0
   rw [h3 0 [] rfl] at h4
   by_cases hlt : 0 < W.heap.size
   · exact hlt
   · unfold World.cell? at h4
     simp only [] at h4
     rw [Array.getElem?_eq_none (by omega)] at h4
     simp at h4
 · rw [Nat.zero_add, h1 j]
   simp
 · rw [List.getElem?_map] at hp
   cases hw : kwords[j]? with
   | none => rw [hw] at hp; simp at hp
   | some w =>
     rw [hw] at hp
     obtain rfl := Option.some.inj hp
     have h5 := h3 j w hw
     rw [Array.getElem?_toList] at hv
     rw [h5] at hv
     obtain rfl := Option.some.inj hv
     exact .v rfl
section
variable {P : Program} {w : World}
theorem law_toldG (hg : GOk P w (fun k => k < w.heap.size)) {f : FuncId} {args : List AV} (hT : Told P f args (.c (.v (.bool true)))) {vs : List Value} (hl : vs.length = args.length) (hr : ∀ (j : Nat) (x : AV) (v : Value), args[j]? = some x → vs[j]? = some v → Rep w (fun b => b < w.heap.size) φ0 h0 x v) :
  Calls P f vs.toArray w fun e W' => e = .returned (.bool true) ∧ Below w.heap.size w W' := by
 refine (hT.2 w (fun k => k < w.heap.size) vs (fun _ h => h) hg ⟨hl, hr⟩).mono ?_
 rintro e W' ⟨v, ro', rfl, hb, _, _, hr, _⟩
 obtain rfl := rep_prim hr
 exact ⟨rfl, hb⟩
end
end
end
end Go.Proofs.YtepneflbhpidbaaGreatDoor
