/- Texts that lead to the law DecodeBack, joined. -/
import Derived.Test.YtllnlmchjljhlaaGreatDoorPkDecodeBackD
import Derived.Test.YtllnlmchjljhlaaGreatDoorPkDecodeBackG
import Derived.Test.YtllnlmchjljhlaaGreatDoorPkDecodeBackA
import Derived.Test.YtllnlmchjljhlaaGreatDoorPkDecodeBackE
import Derived.Test.YtllnlmchjljhlaaGreatDoorPkDecodeBackXAbB
import Derived.Test.YtllnlmchjljhlaaGreatDoorPkDecodeBackB
import Derived.Test.YtllnlmchjljhlaaGreatDoorPkDecodeBackF
import Derived.ProofKit
import Derived.OpenShut
import Derived.ChangeOld
import Derived.Below
namespace Go.Proofs.YtllnlmchjljhlaaGreatDoor
open Go.RowKit
set_option linter.unusedVariables false
set_option linter.unusedSimpArgs false

theorem val_of {ns : List NT} {r : Int} {B : List UInt8} {dep : Nat} {f : Int → Rd VT} (H : ∀ a : Int, 0 ≤ a → a < (ns.length : Int) → ∀ p e, p ≤ B.length → ValE ns r B a dep (f a) p e) :
    ∃ val : Int → Nat → Int → VT × Nat × Int, ∀ a : Int, 0 ≤ a → a < (ns.length : Int) → (∀ p e, p ≤ B.length → Got (f a B p) B e (val a p e).1 (val a p e).2.1 (val a p e).2.2) ∧ ValT ns r B a dep (val a) := by
  have key : ∀ (a : Int) (p : Nat) (e : Int), ∃ t : VT × Nat × Int, 0 ≤ a → a < (ns.length : Int) → p ≤ B.length → Got (f a B p) B e t.1 t.2.1 t.2.2 ∧
      ToldM Tryz.prog 71 [.ref 1000000 1 0 0, .c (.v (.int .i64 a)), .c (.v (.int .i64 (dep : Int)))] [dB ns r B p e] [some (dB ns r B t.2.1 t.2.2)] t.1.av := by
    intro a p e
    by_cases h : 0 ≤ a ∧ a < (ns.length : Int) ∧ p ≤ B.length
    · obtain ⟨v, q, e', h1, h2⟩ := H a h.1 h.2.1 p e h.2.2
      exact ⟨(v, q, e'), fun _ _ _ => ⟨h1, h2⟩⟩
    · exact ⟨(v0, 0, 0), fun h1 h2 h3 => absurd ⟨h1, h2, h3⟩ h⟩
  refine ⟨fun a p e => Classical.choose (key a p e), fun a h1 h2 => ⟨fun p e h3 => ?_, fun p e h3 => ?_⟩⟩
  · exact (Classical.choose_spec (key a p e) h1 h2 h3).1
  · exact (Classical.choose_spec (key a p e) h1 h2 h3).2
theorem dleaf_told (ns : List NT) (r : Int) (B : List UInt8) (hB : B.length ≤ 1000000) (a : Nat) (nd : NT) (hnd : ns[a]? = some nd) (hN : nodeM ns nd = true) (hk : isComp nd.kind = false) (dep : Nat) (p : Nat) (hp : p ≤ B.length) (e : Int) : ValE ns r B (a : Int) dep (rleaf nd) p e := by
  unfold nodeM at hN
  simp only [Bool.and_eq_true, decide_eq_true_eq] at hN
  obtain ⟨⟨k1, k2, _⟩, _, hS⟩ := hN
  unfold isComp at hk
  simp at hk
  by_cases h2 : nd.kind = 2
  · exact dval2_told ns r B hB a nd hnd h2 dep p hp e
  by_cases h3 : nd.kind = 3
  · exact dval3_told ns r B hB a nd hnd h3 dep p hp e
  by_cases h4 : nd.kind = 4
  · exact dval4_told ns r B hB a nd hnd h4 dep p hp e
  by_cases h5 : nd.kind = 5
  · exact dval5_told ns r B hB a nd hnd h5 dep p hp e
  by_cases h6 : nd.kind = 6
  · exact dval6_told ns r B hB a nd hnd h6 dep p hp e
  by_cases h7 : nd.kind = 7
  · exact dval7_told ns r B hB a nd hnd h7 dep p hp e
  by_cases h8 : nd.kind = 8
  · exact dval8_told ns r B hB a nd hnd h8 dep p hp e
  by_cases h14 : nd.kind = 14
  · rw [h14, if_neg (by decide), if_neg (by decide), if_pos rfl] at hS
    simp only [Bool.and_eq_true, decide_eq_true_eq] at hS
    exact dval14_told ns r B hB a nd hnd h14 ⟨hS.1, by omega⟩ dep p hp e
  by_cases h10 : nd.kind = 10
  · exact dval10_told ns r B hB a nd hnd h10 dep p hp e
  · exact dval1_told ns r B a nd hnd (by omega) dep p hp e
theorem ditems_any (ns : List NT) (r : Int) (B : List UInt8) (hB : B.length ≤ 1000000) (nd : NT) (dep : Nat) {f : Rd VT} (hf : Fair f) (val : Nat → Int → VT × Nat × Int) (hg : ∀ p e, p ≤ B.length → Got (f B p) B e (val p e).1 (val p e).2.1 (val p e).2.2) (hV : ValT ns r B nd.items dep val) (p : Nat) (hp : p ≤ B.length) (e : Int) :
    ∃ (xs : List VT) (ks : List (List UInt8)) (q : Nat) (e' : Int), Got (rblks (ritem (nd.kind == 12) f) 301 [] [] B p) B e (xs, ks) q e' ∧
      ToldM Tryz.prog 201 [.ref 1000000 1 0 0, nd.av, .c (.v (.int .i64 (dep : Int)))] [dB ns r B p e] [some (dB ns r B q e')] (.tup [.c (.sl 6 (xs.map VT.cells)), .c (.sl 1 (ks.map sPV))]) := by
  by_cases h : e = 0
  · subst h
    have key : ∀ h p : Nat, ∃ t : Nat × Nat × Int, h ≤ 300 → p ≤ B.length → Got (rcount h B p) B 0 t.1 t.2.1 t.2.2 ∧ (t.2.2 ≠ 0 → t.1 = 0) ∧
        ToldM Tryz.prog 248 [.ref 1000000 1 0 0, .c (.v (.int .i64 (h : Int)))] [dB ns r B p 0] [some (dB ns r B t.2.1 t.2.2)] (.c (.v (.int .i64 (t.1 : Int)))) := by
      intro h p
      by_cases hh : h ≤ 300 ∧ p ≤ B.length
      · obtain ⟨m, q, e', h1, h2, h3⟩ := dcount_told ns r B hB p hh.2 0 h hh.1
        exact ⟨(m, q, e'), fun _ _ => ⟨h1, h2, h3⟩⟩
      · exact ⟨(0, 0, 0), fun h1 h2 => absurd ⟨h1, h2⟩ hh⟩
    obtain ⟨cnt, hcnt⟩ : ∃ cnt : Nat → Nat → Nat × Nat × Int, ∀ h p : Nat, h ≤ 300 → p ≤ B.length → Got (rcount h B p) B 0 (cnt h p).1 (cnt h p).2.1 (cnt h p).2.2 ∧ ((cnt h p).2.2 ≠ 0 → (cnt h p).1 = 0) ∧
        ToldM Tryz.prog 248 [.ref 1000000 1 0 0, .c (.v (.int .i64 (h : Int)))] [dB ns r B p 0] [some (dB ns r B (cnt h p).2.1 (cnt h p).2.2)] (.c (.v (.int .i64 ((cnt h p).1 : Int)))) :=
      ⟨fun h p => Classical.choose (key h p), fun h p h1 h2 => Classical.choose_spec (key h p) h1 h2⟩
    have hcl : ∀ h p, h ≤ 300 → p ≤ B.length → (cnt h p).1 + h ≤ 300 ∧ (cnt h p).2.1 ≤ B.length ∧ ((cnt h p).2.2 ≠ 0 → (cnt h p).1 = 0) := by
      intro h p h1 h2
      obtain ⟨g1, g2, _⟩ := hcnt h p h1 h2
      refine ⟨?_, g1.le, g2⟩
      by_cases h0 : (cnt h p).2.2 = 0
      · exact count_le ((g1.is (fair_count _)).1 h0) h1
      · rw [g2 h0]; omega
    have hT := ditems_told ns r B hB nd dep val hV (fun p e hp => (hg p e hp).le) cnt (fun h p h1 h2 => (hcnt h p h1 h2).2.2) hcl p hp _ rfl
    have hG := blkS_got (fair_item (nd.kind == 12) hf) (itemS_ok hf hg (nd.kind == 12)) (cnt := cnt) (fun h p h1 h2 => ⟨(hcnt h p h1 h2).1, (hcnt h p h1 h2).2.1⟩) 301 [] [] p hp (by simp)
    exact ⟨_, _, _, _, hG, hT⟩
  · exact ⟨[], [], p, e, ⟨hp, fun _ => rfl, fun x h0 => absurd h0 h, fun w q' h0 => absurd h0 h⟩, ditems_bad ns r B hB nd dep p hp e h⟩
theorem dvalue_told (s : ST) (hr : rightM s = true) (r : Int) (B : List UInt8) (hB : B.length ≤ 1000000) : ∀ (d : Nat), d ≤ 20 → ∀ a : Int, 0 ≤ a → a < (s.nodes.length : Int) → ∀ p e, p ≤ B.length → ValE s.nodes r B a (20 - d) (decM s.nodes d a) p e := by
  intro d
  induction d with
  | zero =>
    intro _ a ha ha' p e hp
    obtain ⟨m, rfl⟩ : ∃ m : Nat, a = (m : Int) := ⟨a.toNat, by omega⟩
    obtain ⟨nd, hnd⟩ : ∃ nd, s.nodes[m]? = some nd := ⟨_, List.getElem?_eq_getElem (show m < s.nodes.length by omega)⟩
    have hnd' : s.nodes[((m : Int)).toNat]? = some nd := by rw [Int.toNat_natCast]; exact hnd
    cases hk : isComp nd.kind with
    | true =>
      rw [decM_zero hnd' hk]
      exact dvalc0_told s.nodes r B m nd hnd (by unfold isComp at hk; simp at hk; omega) p hp e
    | false =>
      rw [decM_leaf hnd' hk]
      exact dleaf_told s.nodes r B hB m nd hnd (right_nodes hr nd (List.mem_of_getElem? hnd)) hk _ p hp e
  | succ d ih =>
    intro hd a ha ha' p e hp
    obtain ⟨m, rfl⟩ : ∃ m : Nat, a = (m : Int) := ⟨a.toNat, by omega⟩
    obtain ⟨nd, hnd⟩ : ∃ nd, s.nodes[m]? = some nd := ⟨_, List.getElem?_eq_getElem (show m < s.nodes.length by omega)⟩
    have hnd' : s.nodes[((m : Int)).toNat]? = some nd := by rw [Int.toNat_natCast]; exact hnd
    have hmem := List.mem_of_getElem? hnd
    have hN := right_nodes hr nd hmem
    cases hk : isComp nd.kind with
    | false =>
      rw [decM_leaf hnd' hk]
      exact dleaf_told s.nodes r B hB m nd hnd hN hk _ p hp e
    | true =>
    rw [decM_succ hnd' hk]
    have hkk : nd.kind = 9 ∨ nd.kind = 11 ∨ nd.kind = 12 ∨ nd.kind = 13 := by unfold isComp at hk; simp at hk; omega
    have hkid := ordered_kids (right_ordered hr) nd hmem
    have hdep : 20 - (d + 1) < 20 := by omega
    have hdep1 : 20 - (d + 1) + 1 = 20 - d := by omega
    obtain ⟨val, hval⟩ := val_of (ih (by omega))
    rw [← hdep1] at hval
    have hfair := fair_dec s.nodes d
    unfold nodeM at hN
    simp only [Bool.and_eq_true, decide_eq_true_eq] at hN
    have hS := hN.2.2
    unfold rcomp
    by_cases h9 : nd.kind = 9
    · rw [if_pos h9] at hS ⊢
      unfold fieldsM at hS
      simp only [Bool.and_eq_true, decide_eq_true_eq] at hS
      have hkf : ∀ t ∈ nd.fields, 0 ≤ t.type ∧ t.type < (s.nodes.length : Int) := fun t ht => hkid t.type (by unfold kidsN; rw [if_pos h9]; exact List.mem_map_of_mem ht)
      have hG := got_map (fair_fields hfair nd.fields []) (fun xs => VT.mk nd.kind 0 0 [] xs []) (fldS_got hfair nd.fields (fun t ht => (hval t.type (hkf t ht).1 (hkf t ht).2).1) [] p e hp)
      have hT := dcomp9_told s.nodes r B hB nd h9 (by omega) (20 - (d + 1) + 1) val (fun t ht => (hval t.type (hkf t ht).1 (hkf t ht).2).2) (fun t ht p e hp => ((hval t.type (hkf t ht).1 (hkf t ht).2).1 p e hp).le) p hp e _ rfl
      exact ⟨_, _, _, hG, dvalc_told s.nodes r B m nd hnd hkk _ hdep p _ e _ _ hT⟩
    rw [if_neg h9]
    by_cases h13 : nd.kind = 13
    · rw [if_pos h13]
      have hbk : ∀ b ∈ nd.branches, 0 ≤ b ∧ b < (s.nodes.length : Int) := fun b hb => hkid b (by unfold kidsN; rw [if_neg h9, if_neg (by omega), if_pos h13]; exact hb)
      rw [h13, if_neg (by decide), if_neg (by decide), if_neg (by decide), if_pos rfl] at hS
      unfold unionM at hS
      simp only [Bool.and_eq_true, decide_eq_true_eq] at hS
      have hT := dcomp13_told s.nodes r B hB nd h13 (by omega) (20 - (d + 1) + 1) val (fun b hb => (hval b (hbk b hb).1 (hbk b hb).2).2) p hp e _ rfl _ rfl
      have hP := plcS_got fair_long nd.branches.length hp e
      have hin := plcS_in (f := rlong) (B := B) (many := nd.branches.length) (p := p) (e := e)
      generalize plcS rlong B nd.branches.length p e = P at hT hP hin
      by_cases h0 : P.2.2 = 0
      · rw [if_pos h0] at hT
        obtain ⟨n1, n2⟩ := hin h0
        have hlt : P.1.toNat < nd.branches.length := by omega
        have hba : nd.branches[P.1.toNat]? = some (branchAt nd P.1) := by rw [branchAt, List.getElem?_eq_getElem hlt]
        have hb := hbk _ (List.mem_of_getElem? hba)
        have hX := (hval _ hb.1 hb.2).1 P.2.1 0 hP.le
        have he : e = 0 := Decidable.not_not.1 fun h => h ((hP.no h).symm.trans h0)
        subst he
        have hPi := hP.is (fair_place fair_long _)
        have hXi := hX.is (hfair _)
        refine ⟨_, _, _, ?_, dvalc_told s.nodes r B m nd hnd hkk _ hdep p _ 0 _ _ hT⟩
        refine got_of hX.le (fun h1 => ?_) fun h1 => ?_
        · rw [rbind_ok (hPi.1 h0), rbind_ok (hXi.1 h1)]; rfl
        · rw [rbind_ok (hPi.1 h0), rbind_bad (hXi.2 h1)]
      · rw [if_neg h0] at hT
        refine ⟨_, _, _, ?_, dvalc_told s.nodes r B m nd hnd hkk _ hdep p _ e _ _ hT⟩
        by_cases he : e = 0
        · subst he
          have hPi := hP.is (fair_place fair_long _)
          exact got_of hP.le (fun h1 => absurd h1 h0) fun h1 => by rw [rbind_bad (hPi.2 h0)]
        · exact ⟨hP.le, hP.no, fun x h1 => absurd h1 he, fun w q' h1 => absurd h1 he⟩
    · rw [if_neg h13]
      have hk2 : nd.kind = 11 ∨ nd.kind = 12 := by omega
      have hb := hkid nd.items (by unfold kidsN; rw [if_neg h9, if_pos hk2]; simp)
      obtain ⟨xs, ks, q, e', hG, hI⟩ := ditems_any s.nodes r B hB nd (20 - (d + 1) + 1) (hfair nd.items) (val nd.items) (hval _ hb.1 hb.2).1 (hval _ hb.1 hb.2).2 p hp e
      have hT := dcomp11_told s.nodes r B nd hk2 (20 - (d + 1) + 1) p q e e' xs ks hI
      exact ⟨_, _, _, got_map (fair_blks (fair_item _ (hfair _)) _ _ _) (fun q => VT.mk nd.kind 0 0 [] q.1 q.2) hG, dvalc_told s.nodes r B m nd hnd hkk _ hdep p _ e _ _ hT⟩
section
attribute [local go_sem] opx opE ev okx gcond bnd okO AV.get AV.okb cAV upd_at putd_some putd_none wrs_nil wrs_cons look_nil look_cons st argT_at bpick_and bpick_or bpick_true bpick_false binV binI binS binVOk binOk isShift binSOk unV unVOk loadV loadP cellsA zeroA Blkd.len setE grown moreA moreR moreOk eqRes pv fillA fillE putSeg AV.cellish AV.pureL AV.pureB lentL_is ex_some AV.ren AV.renL renL_c Blkd.ren rho wrM renN lentOk rhoE keepM endOk tyA_2 tyA_3 tyA_4 tyA_5 tyA_6 tyA_7 tyA_8 tyA_9 tyA_10 tyA_11 tyA_12 tyA_13 tyA_14 tyA_15 tyA_16 tyA_17 tyA_18 tyA_19 tyA_21 tyA_22 tyA_23 tyA_24 tyA_29 tyA_30 tyA_31 tyA_32 tyA_33 tyA_34 tyA_35 tyA_36 tyA_37 tyA_38 tyA_39 tyA_40 tyA_41 tyA_42 tyA_43 tyA_49 tyA_85 tyA_89 tyA_99 tyA_100 tyA_101 tyA_105 tyA_106 tyA_107 tyA_108 tyA_109 tyA_111 tyA_112 tyA_113 tyA_114 tyA_123 tyA_126 tyA_127 tyA_128 tyA_129 tyA_130 tyA_153 tyA_163 tyA_164 tyA_165 tyA_179 tyA_185 tyA_191 tyA_192 tyA_193 tyA_194 tyA_195 tyA_196 tyA_209 tyA_213 tyA_214 tyA_215 tyA_241 tyA_248 tyA_274 tyA_275 tyA_276 tyA_292 tyA_294 tyA_302 tyA_307 tyA_315 tyA_319 tyA_321 tyA_324 tyA_325 tyA_326 tyA_327 tyA_328 tyA_329 tyA_330 tyA_332 tyA_333 Option.map_some Option.map_none Option.getD_some Option.getD_none Option.bind_some Option.bind_none List.getElem?_cons_zero List.getElem?_cons_succ List.getElem?_nil List.getElem?_toArray List.length_cons List.length_nil List.length_map List.forall_mem_map List.map_cons List.map_nil List.drop_zero List.drop_succ_cons List.drop_nil List.take_zero List.take_succ_cons List.take_nil List.mem_cons List.not_mem_nil or_false forall_eq_or_imp forall_eq List.set_cons_zero List.set_cons_succ List.cons_append List.nil_append List.append_nil List.foldl_cons List.foldl_nil List.replicate_succ List.replicate_zero List.all_cons List.all_nil if_true if_false Bool.false_eq_true ne_eq not_false_eq_true not_true_eq_false true_and and_true and_self true_implies imp_self implies_true forall_const beq_self_eq_true Bool.and_true Bool.true_and Bool.and_false Bool.false_and Bool.or_true Bool.true_or Bool.or_false Bool.false_or Bool.not_true Bool.not_false Bool.not_eq_eq_eq_not intKindOf Value.oneCell' Int.toNat_natCast beq_true beq_false Bool.not_eq_true false_implies false_or true_or or_true Nat.zero_add Nat.add_zero decide_true decide_false Int.cast_ofNat_Int Int.toNat_zero Int.toNat_one eq_self

theorem frz_v0 {h : Nat → Option Blkd} {K : Nat → Bool} : Frz K h (.agg [.c (.v (.int .i64 0)), .c (.v (.int .i64 0)), .c (.v (.int .u64 0)), .c (.v (.slice none 0 0)), .c (.v (.slice none 0 0)), .c (.v (.slice none 0 0))]) v0.av := by
  rw [VT.av_eq, v0, vcells_mk]
  exact Frz.aggL (.cons (.c _) (.cons (.c _) (.cons (.c _) (.cons (.nil 1) (.cons (.nil 6) (.cons (.nil 1) .nil))))))
theorem takeM_no {s : ST} {a : Int} {B : List UInt8} {p : Int} (h : a < 0 ∨ (s.nodes.length : Int) ≤ a ∨ p < 0 ∨ (B.length : Int) < p ∨ rightM s = false) : takeM s a B p = (v0, p, 2) := by unfold takeM; rw [if_pos h]
theorem takeM_go {s : ST} {a : Int} {B : List UInt8} {p : Int} (h : ¬ (a < 0 ∨ (s.nodes.length : Int) ≤ a ∨ p < 0 ∨ (B.length : Int) < p ∨ rightM s = false)) : takeM s a B p = match decM s.nodes 20 a B p.toNat with
    | .error e => (v0, p, e)
    | .ok (v, q) => (v, (q : Int), 0) := by unfold takeM; rw [if_neg h]; rfl
theorem drop_vcellsC (v : VT) : (v.cells.map AV.c).drop 6 = [] := List.drop_eq_nil_of_le (by rw [List.length_map, len_vcells]; exact Nat.le_refl _)
set_option maxRecDepth 100000 in
set_option maxHeartbeats 1600000 in
theorem dtake_told (s : ST) (hs : s.sm 1000000) (a : Int) (B : List UInt8) (hB : B.length ≤ 1000000) (p : Int) :
    Told Tryz.prog 33 [s.av, .c (.v (.int .i64 a)), .c (.sl 1 (bytePV B)), .c (.v (.int .i64 p))] (.tup [(takeM s a B p).1.av, .c (.v (.int .i64 (takeM s a B p).2.1)), .c (.v (.int .i64 (takeM s a B p).2.2))]) := by
  have hR := sRight_told s hs
  have hbl := bytePV_l B
  by_cases h1 : a < 0
  · rw [takeM_no (.inl h1)]
    have e1 : decide (a < 0) = true := by simpa using h1
    rw [ST.av_eq]
    refine VC.told ent_33 Tryz.func33 rfl Tryz.ntmps33 (by simp) (by first | rfl | simp [AV.pureB, AV.pureL, pureL_c, pures]) (by first | rfl | simp [AV.pureB, AV.pureL, pureL_c, pures]) fun hb => ?_
    clear hb
    refine walkBF (And.intro @scells_mk (And.intro hbl e1)) ?_
    refine ⟨by first | exact .inr rfl | exact .inl rfl, ?_⟩; rw [Tryz.results33]; simp only [resOk, resV, go_sem, simprocAttr]
    exact ⟨frz_v0, .c _, .c _⟩
  have e1 : decide (a < 0) = false := by simpa using h1
  by_cases h2 : (s.nodes.length : Int) ≤ a
  · rw [takeM_no (.inr (.inl h2))]
    have e2 : decide (a ≥ (s.nodes.length : Int)) = true := by simpa using h2
    rw [ST.av_eq]
    refine VC.told ent_33 Tryz.func33 rfl Tryz.ntmps33 (by simp) (by first | rfl | simp [AV.pureB, AV.pureL, pureL_c, pures]) (by first | rfl | simp [AV.pureB, AV.pureL, pureL_c, pures]) fun hb => ?_
    clear hb
    refine walkBF (And.intro @scells_mk (And.intro hbl (And.intro e1 e2))) ?_
    refine ⟨by first | exact .inr rfl | exact .inl rfl, ?_⟩; rw [Tryz.results33]; simp only [resOk, resV, go_sem, simprocAttr]
    exact ⟨frz_v0, .c _, .c _⟩
  have e2 : decide (a ≥ (s.nodes.length : Int)) = false := by simpa using h2
  by_cases h3 : p < 0
  · rw [takeM_no (.inr (.inr (.inl h3)))]
    have e3 : decide (p < 0) = true := by simpa using h3
    rw [ST.av_eq]
    refine VC.told ent_33 Tryz.func33 rfl Tryz.ntmps33 (by simp) (by first | rfl | simp [AV.pureB, AV.pureL, pureL_c, pures]) (by first | rfl | simp [AV.pureB, AV.pureL, pureL_c, pures]) fun hb => ?_
    clear hb
    refine walkBF (And.intro @scells_mk (And.intro hbl (And.intro e1 (And.intro e2 e3)))) ?_
    refine ⟨by first | exact .inr rfl | exact .inl rfl, ?_⟩; rw [Tryz.results33]; simp only [resOk, resV, go_sem, simprocAttr]
    exact ⟨frz_v0, .c _, .c _⟩
  have e3 : decide (p < 0) = false := by simpa using h3
  by_cases h4 : (B.length : Int) < p
  · rw [takeM_no (.inr (.inr (.inr (.inl h4))))]
    have e4 : decide (p > (B.length : Int)) = true := by simpa using h4
    rw [ST.av_eq]
    refine VC.told ent_33 Tryz.func33 rfl Tryz.ntmps33 (by simp) (by first | rfl | simp [AV.pureB, AV.pureL, pureL_c, pures]) (by first | rfl | simp [AV.pureB, AV.pureL, pureL_c, pures]) fun hb => ?_
    clear hb
    refine walkBF (And.intro @scells_mk (And.intro hbl (And.intro e1 (And.intro e2 (And.intro e3 e4))))) ?_
    refine ⟨by first | exact .inr rfl | exact .inl rfl, ?_⟩; rw [Tryz.results33]; simp only [resOk, resV, go_sem, simprocAttr]
    exact ⟨frz_v0, .c _, .c _⟩
  have e4 : decide (p > (B.length : Int)) = false := by simpa using h4
  cases hr : rightM s with
  | false =>
    rw [takeM_no (.inr (.inr (.inr (.inr hr))))]
    rw [hr] at hR
    rw [ST.av_eq] at hR ⊢
    refine VC.told ent_33 Tryz.func33 rfl Tryz.ntmps33 (by simp) (by first | rfl | simp [AV.pureB, AV.pureL, pureL_c, pures]) (by first | rfl | simp [AV.pureB, AV.pureL, pureL_c, pures]) fun hb => ?_
    clear hb
    refine walkBF (And.intro @scells_mk (And.intro hbl (And.intro e1 (And.intro e2 (And.intro e3 e4))))) ?_
    refine walkCF (And.intro @pureL_c @scells_mk) (hR) ?_
    refine walkB ?_
    refine ⟨by first | exact .inr rfl | exact .inl rfl, ?_⟩; rw [Tryz.results33]; simp only [resOk, resV, go_sem, simprocAttr]
    exact ⟨frz_v0, .c _, .c _⟩
  | true =>
  rw [takeM_go (by rw [hr]; simp; omega)]
  rw [hr] at hR
  obtain ⟨m, rfl⟩ : ∃ m : Nat, p = (m : Int) := ⟨p.toNat, by omega⟩
  rw [Int.toNat_natCast]
  obtain ⟨v, q, e', hG, hT⟩ := dvalue_told s hr s.root B hB 20 (Nat.le_refl _) a (by omega) (by omega) m 0 (by omega)
  have hi := hG.is (fair_dec s.nodes 20 a)
  rw [show ((20 - 20 : Nat) : Int) = 0 from rfl, VT.av_eq] at hT
  rw [ST.av_eq] at hR ⊢
  rw [scells_mk] at hR ⊢
  unfold dB at hT
  by_cases h0 : e' = 0
  · subst h0
    rw [hi.1 rfl]
    simp only []
    rw [VT.av_eq]
    refine VC.told ent_33 Tryz.func33 rfl Tryz.ntmps33 (by simp) (by first | rfl | simp [AV.pureB, AV.pureL, pureL_c, pures]) (by first | rfl | simp [AV.pureB, AV.pureL, pureL_c, pures]) fun hb => ?_
    clear hb
    refine walkBF (And.intro @scells_mk (And.intro hbl (And.intro e1 (And.intro e2 (And.intro e3 e4))))) ?_
    refine walkCF (And.intro @pureL_c @scells_mk) (hR) ?_
    refine walkBF (@scells_mk) ?_
    ((refine AO.step fun K hK => ?_; simp only [go_sem, Int.reduceBEq, Int.reduceLE, Int.reduceLT, Int.reduceNeg, Nat.reduceAdd, Nat.reduceEqDiff, Nat.reduceLT, Nat.reduceLeDiff, Nat.reduceMul, Nat.reduceSub, reduceCtorEq, ↓reduceIte]; (first | refine gsel_go ?_ | skip)); refine .inr (.inr (.inl ⟨?vy1, [264], ?va1, ?vl1, ?vm1, ?cond1, ?cont1⟩)); (case cond1 => ((repeat' apply And.intro) <;> (try ((with_reducible show ToldM _ _ _ _ _ _); exact hT))); (all_goals first | trivial | (simp only [go_sem, simprocAttr]; done) | (simp; done) | rfl)); (first | refine hK _ _ _ ?_ | (simp only [go_sem, simprocAttr]; first | refine hK _ _ _ ?_ | refine ⟨rfl, hK _ _ _ ?_⟩)); clear hK K)
    have hvd := drop_vcellsC v
    refine walkBF (And.intro @len_vcells (And.intro @take_vcells (And.intro @take_vcellsC hvd))) ?_
    refine ⟨by first | exact .inr rfl | exact .inl rfl, ?_⟩; rw [Tryz.results33]; simp only [resOk, resV, go_sem, simprocAttr]
    refine ⟨⟨by simp [len_vcells], ?_⟩, .c _, .c _⟩
    (try rw [take_vcellsC])
    exact .cs _ _
  · rw [hi.2 h0]
    simp only []
    have e5 : (e' != 0) = true := by simpa using h0
    refine VC.told ent_33 Tryz.func33 rfl Tryz.ntmps33 (by simp) (by first | rfl | simp [AV.pureB, AV.pureL, pureL_c, pures]) (by first | rfl | simp [AV.pureB, AV.pureL, pureL_c, pures]) fun hb => ?_
    clear hb
    refine walkBF (And.intro @scells_mk (And.intro hbl (And.intro e1 (And.intro e2 (And.intro e3 e4))))) ?_
    refine walkCF (And.intro @pureL_c @scells_mk) (hR) ?_
    refine walkBF (@scells_mk) ?_
    ((refine AO.step fun K hK => ?_; simp only [go_sem, Int.reduceBEq, Int.reduceLE, Int.reduceLT, Int.reduceNeg, Nat.reduceAdd, Nat.reduceEqDiff, Nat.reduceLT, Nat.reduceLeDiff, Nat.reduceMul, Nat.reduceSub, reduceCtorEq, ↓reduceIte]; (first | refine gsel_go ?_ | skip)); refine .inr (.inr (.inl ⟨?vy2, [264], ?va2, ?vl2, ?vm2, ?cond2, ?cont2⟩)); (case cond2 => ((repeat' apply And.intro) <;> (try ((with_reducible show ToldM _ _ _ _ _ _); exact hT))); (all_goals first | trivial | (simp only [go_sem, simprocAttr]; done) | (simp; done) | rfl)); (first | refine hK _ _ _ ?_ | (simp only [go_sem, simprocAttr]; first | refine hK _ _ _ ?_ | refine ⟨rfl, hK _ _ _ ?_⟩)); clear hK K)
    refine walkBF (And.intro @len_vcells (And.intro @take_vcells (And.intro @take_vcellsC e5))) ?_
    refine ⟨by first | exact .inr rfl | exact .inl rfl, ?_⟩; rw [Tryz.results33]; simp only [resOk, resV, go_sem, simprocAttr]
    exact ⟨frz_v0, .c _, .c _⟩
set_option maxRecDepth 100000 in
set_option maxHeartbeats 1600000 in
theorem dall_told (s : ST) (hs : s.sm 1000000) (a : Int) (B : List UInt8) (hB : B.length ≤ 1000000) :
    Told Tryz.prog 43 [s.av, .c (.v (.int .i64 a)), .c (.sl 1 (bytePV B))] (.tup [(dallM s a B).1.av, .c (.v (.int .i64 (dallM s a B).2))]) := by
  have hT := dtake_told s hs a B hB 0
  have hbl := bytePV_l B
  unfold dallM
  generalize takeM s a B 0 = T at hT ⊢
  rw [ST.av_eq] at hT ⊢
  rw [scells_mk] at hT ⊢
  rw [VT.av_eq] at hT
  simp only []
  by_cases h1 : T.2.2 ≠ 0
  · rw [if_pos h1]
    have e1 : (T.2.2 != 0) = true := by simpa using h1
    refine VC.told ent_43 Tryz.func43 rfl Tryz.ntmps43 (by simp) (by first | rfl | simp [AV.pureB, AV.pureL, pureL_c, pures]) (by first | rfl | simp [AV.pureB, AV.pureL, pureL_c, pures]) fun hb => ?_
    clear hb
    refine walkBF (@scells_mk) ?_
    refine walkC (hT) ?_
    refine walkBF (And.intro e1 (And.intro @len_vcells (And.intro @take_vcells @take_vcellsC))) ?_
    refine ⟨by first | exact .inr rfl | exact .inl rfl, ?_⟩; rw [Tryz.results43]; simp only [resOk, resV, go_sem, simprocAttr]
    exact ⟨frz_v0, .c _⟩
  rw [if_neg h1]
  have e1 : (T.2.2 != 0) = false := by simpa using h1
  by_cases h2 : T.2.1 < (B.length : Int)
  · rw [if_pos h2]
    have e2 : decide (T.2.1 < (B.length : Int)) = true := by simpa using h2
    refine VC.told ent_43 Tryz.func43 rfl Tryz.ntmps43 (by simp) (by first | rfl | simp [AV.pureB, AV.pureL, pureL_c, pures]) (by first | rfl | simp [AV.pureB, AV.pureL, pureL_c, pures]) fun hb => ?_
    clear hb
    refine walkBF (@scells_mk) ?_
    refine walkC (hT) ?_
    refine walkBF (And.intro e1 (And.intro e2 (And.intro hbl (And.intro @len_vcells (And.intro @take_vcells @take_vcellsC))))) ?_
    refine ⟨by first | exact .inr rfl | exact .inl rfl, ?_⟩; rw [Tryz.results43]; simp only [resOk, resV, go_sem, simprocAttr]
    exact ⟨frz_v0, .c _⟩
  · rw [if_neg h2]
    have e2 : decide (T.2.1 < (B.length : Int)) = false := by simpa using h2
    rw [VT.av_eq]
    refine VC.told ent_43 Tryz.func43 rfl Tryz.ntmps43 (by simp) (by first | rfl | simp [AV.pureB, AV.pureL, pureL_c, pures]) (by first | rfl | simp [AV.pureB, AV.pureL, pureL_c, pures]) fun hb => ?_
    clear hb
    refine walkBF (@scells_mk) ?_
    refine walkC (hT) ?_
    have hvd := drop_vcellsC T.1
    refine walkBF (And.intro e1 (And.intro e2 (And.intro hbl (And.intro @len_vcells (And.intro @take_vcells (And.intro @take_vcellsC hvd)))))) ?_
    refine ⟨by first | exact .inr rfl | exact .inl rfl, ?_⟩; rw [Tryz.results43]; simp only [resOk, resV, go_sem, simprocAttr]
    refine ⟨⟨by simp [len_vcells], ?_⟩, .c _⟩
    (try rw [take_vcellsC])
    exact .cs _ _

noncomputable def ceq {α : Type} (a b : α) : Bool := @decide (a = b) (Classical.propDecidable _)
theorem ceq_iff {α : Type} (a b : α) : ceq a b = true ↔ a = b := by simp [ceq]
theorem ceq_false {α : Type} (a b : α) : ceq a b = false ↔ a ≠ b := by simp [ceq]
theorem ceq_self {α : Type} (a : α) : ceq a a = true := (ceq_iff a a).2 rfl

set_option maxRecDepth 100000 in
set_option maxHeartbeats 400000 in
theorem eqfV_told {g : FuncId} {fs cs : List AV} (hp : AV.pureL fs = true) (hp' : AV.pureL cs = true) (xs ys : List VT) (hcall : ∀ x ∈ xs, ∀ y, Told Tryz.prog g (fs ++ ([x.av, y.av] ++ cs)) (.c (.v (.bool (ceq x y))))) :
    Told Tryz.prog 62 [.c (.sl 6 (xs.map VT.cells)), .c (.sl 6 (ys.map VT.cells)), .fn (.func g) fs cs] (.c (.v (.bool (ceq xs ys)))) := by
  refine VC.told ent_62 Tryz.func62 rfl Tryz.ntmps62 (by simp) (by simp [AV.pureB, AV.pureL, hp, hp']) rfl fun hb => ?_
  simp only [abd_c, pbd_sl, List.mem_cons, List.not_mem_nil, or_false, forall_eq_or_imp, forall_eq, List.length_map] at hb
  have h1 := hb.1.1
  have h2 := hb.2.1.1
  clear hb
  refine walkG ?_
  refine VC.cond (by rfl) (by trivial) (fun hc => ?_) (fun hc => ?_)
  · have hne : ceq xs ys = false := by
      rw [ceq_false]
      intro e
      subst e
      simp at hc
    refine walkG ?_
    refine ⟨.inr rfl, ?_⟩
    rw [Tryz.results62, hne]
    simp only [resOk, resV, go_sem, simprocAttr]
    exact .c _
  · have hlen : xs.length = ys.length := by
      simp at hc
      omega
    refine walkG ?_
    refine VC.loop (ι := {i : Nat // i ≤ xs.length ∧ xs.take i = ys.take i}) (fun i => [(1, .c (.sl 6 (ys.map VT.cells))), (2, .fn (.func g) fs cs), (15, .c (.sl 6 (xs.map VT.cells))), (16, .c (.v (.int .i64 xs.length))), (17, .c (.v (.int .i64 i.1)))]) (fun _ => []) 0 (fun i => xs.length - i.1) ⟨0, Nat.zero_le _, rfl⟩ ?_ ?_
    · simp only [sc_pureL hp, sc_pureL hp', Weak, eq_self, used_is, sc_any, sc_c, sc_pp, sc_ref, sc_row, sc_agg, sc_fn, ScL, some_imp, List.forall_mem_map, go_sem, Int.reduceBEq, Int.reduceLE, Int.reduceLT, Int.reduceNeg, Nat.reduceAdd, Nat.reduceEqDiff, Nat.reduceLT, Nat.reduceLeDiff, Nat.reduceMul, Nat.reduceSub, reduceCtorEq, ↓reduceIte]
      all_goals rfl
    rintro ⟨i, hi, ht⟩
    refine walkG ?_
    refine VC.cond (by rfl) (by trivial) (fun hc => ?_) (fun hc => ?_)
    · simp only [decide_eq_true_eq] at hc
      obtain ⟨x, hx⟩ : ∃ x, xs[i]? = some x := ⟨xs[i], List.getElem?_eq_getElem (by omega)⟩
      obtain ⟨y, hy⟩ : ∃ y, ys[i]? = some y := ⟨ys[i], List.getElem?_eq_getElem (by omega)⟩
      have hw : IntKind.i64.wrap ((i : Int) + 1) = (i : Int) + 1 := wrap64_id (by omega) (by omega)
      have hcl := hcall x (List.mem_of_getElem? hx) y
      (repeat (first | refine pass ?_ | refine VC.region (by rfl) (by rfl) ?_ | (refine AO.step fun K hK => ?_; simp only [List.getElem?_map, hx, hy, VT.av, len_vcells, take_vcells, take_vcellsC, go_sem, Int.reduceBEq, Int.reduceLE, Int.reduceLT, Int.reduceNeg, Nat.reduceAdd, Nat.reduceEqDiff, Nat.reduceLT, Nat.reduceLeDiff, Nat.reduceMul, Nat.reduceSub, reduceCtorEq, ↓reduceIte]; (first | refine gsel_skip ?_ | refine gsel_go ?_ | skip); (first | refine hK _ _ _ ?_ | refine ⟨by first | omega | exact ⟨_, rfl, rfl⟩ | exact fun _ => ⟨_, rfl, rfl⟩ | (intro h; simp only [List.getElem?_map, hx, hy, VT.av, len_vcells, take_vcells, take_vcellsC, h, true_and]; omega) | (clear hK; intro h; simp_all <;> omega), hK _ _ _ ?_⟩); clear hK K) | refine VC.draw mixP (by rfl) (by rfl) ?_ | refine ⟨okd_of (by kernel_rfl), ?_⟩ | refine BQ.other (by decide) ?_ | refine VC.seq ?_ | refine AO.nil ?_ | refine VC.block ?_))
      (refine AO.step fun K hK => ?_; simp only [go_sem, Int.reduceBEq, Int.reduceLE, Int.reduceLT, Int.reduceNeg, Nat.reduceAdd, Nat.reduceEqDiff, Nat.reduceLT, Nat.reduceLeDiff, Nat.reduceMul, Nat.reduceSub, reduceCtorEq, ↓reduceIte, VT.av, len_vcells, take_vcells, take_vcellsC, hp, hp', pureL_app, pureL_c, List.append_assoc]; (first | refine gsel_go ?_ | skip))
      refine .inl ⟨_, hcl, hK _ _ _ ?_⟩
      clear hK K
      refine walkG ?_
      refine VC.cond (by rfl) (by trivial) (fun hc2 => ?_) (fun hc2 => ?_)
      · have hne : ceq xs ys = false := by
          rw [ceq_false]
          intro e
          subst e
          rw [hx] at hy
          obtain rfl := Option.some.inj hy
          rw [ceq_self] at hc2
          simp at hc2
        refine walkG ?_
        refine ⟨.inr rfl, ?_⟩
        rw [Tryz.results62, hne]
        simp only [resOk, resV, go_sem, simprocAttr]
        exact .c _
      · have hxy : x = y := by
          rw [← ceq_iff]
          simpa using hc2
        refine walkGF (hw) ?_
        refine .next ⟨i + 1, by omega, ?_⟩ ?_ (by simp only []; omega)
        · rw [List.take_add_one, List.take_add_one, hx, hy, ht, hxy]
        simp only [sc_pureL hp, sc_pureL hp', Weak, eq_self, used_is, sc_any, sc_c, sc_pp, sc_ref, sc_row, sc_agg, sc_fn, ScL, some_imp, List.forall_mem_map, go_sem, Int.reduceBEq, Int.reduceLE, Int.reduceLT, Int.reduceNeg, Nat.reduceAdd, Nat.reduceEqDiff, Nat.reduceLT, Nat.reduceLeDiff, Nat.reduceMul, Nat.reduceSub, reduceCtorEq, ↓reduceIte]
        exact cI (by omega)
    · simp only [decide_eq_false_iff_not] at hc
      obtain rfl : i = xs.length := by omega
      have heq : ceq xs ys = true := by
        rw [List.take_length, hlen, List.take_length] at ht
        rw [ceq_iff, ht]
      refine walkG ?_
      refine ⟨.inr rfl, ?_⟩
      rw [Tryz.results62, heq]
      simp only [resOk, resV, go_sem, simprocAttr]
      exact .c _
theorem ceq_val (k n b : Int) (s : List UInt8) (xs : List VT) (ks : List (List UInt8)) (k' n' b' : Int) (s' : List UInt8) (xs' : List VT) (ks' : List (List UInt8)) :
    ceq (VT.mk k n b s xs ks) (VT.mk k' n' b' s' xs' ks') = (((((k == k') && (n == n')) && (b == b')) && (s == s')) && (ks == ks') && ceq xs xs') := by
  rw [Bool.eq_iff_iff]
  simp only [ceq_iff, Bool.and_eq_true, beq_iff_eq]
  constructor
  · intro h
    injection h with h1 h2 h3 h4 h5 h6
    exact ⟨⟨⟨⟨⟨h1, h2⟩, h3⟩, h4⟩, h6⟩, h5⟩
  · rintro ⟨⟨⟨⟨⟨rfl, rfl⟩, rfl⟩, rfl⟩, rfl⟩, rfl⟩
    rfl
set_option maxRecDepth 100000 in
set_option maxHeartbeats 400000 in
theorem bequal_told (s t : List UInt8) : Told Tryz.prog 60 [.c (.sl 1 (bytePV s)), .c (.sl 1 (bytePV t))] (.c (.v (.bool (s == t)))) := by
  have e : ∀ l : List UInt8, bstr (bytesOf (bytePV l)) = str l := fun l => by rw [bytesOf_pv]; rfl
  have hs := bytePV_ok s
  have ht := bytePV_ok t
  refine VC.told ent_60 Tryz.func60 rfl Tryz.ntmps60 (by simp) (by first | rfl | simp [AV.pureB, AV.pureL, pureL_c, pures]) (by first | rfl | simp [AV.pureB, AV.pureL, pureL_c, pures]) fun hb => ?_
  clear hb
  refine walkGF (And.intro e @str_toList) ?_
  refine ⟨by first | exact .inr rfl | exact .inl rfl, ?_⟩; rw [Tryz.results60]; simp only [resOk, resV, go_sem, simprocAttr]
  exact .c _
set_option maxRecDepth 100000 in
set_option maxHeartbeats 800000 in
theorem vsame_told : ∀ (m : Nat) (v w : VT), SizeOf.sizeOf v ≤ m → Told Tryz.prog 19 [v.av, w.av] (.c (.v (.bool (ceq v w)))) := by
  intro m
  induction m with
  | zero => intro v w hv; cases v; simp at hv
  | succ m ih =>
  intro v w hv
  cases v with
  | mk k n b s xs ks =>
  cases w with
  | mk k' n' b' s' xs' ks' =>
  have hB := bequal_told s s'
  have hS := sequal_told ks ks'
  have hE := eqfV_told (g := 19) (fs := []) (cs := []) rfl rfl xs xs' fun x hx y => ih x y (by
    have h3 := List.sizeOf_lt_of_mem hx
    simp at hv
    omega)
  have hV := ceq_val k n b s xs ks k' n' b' s' xs' ks'
  obtain ⟨V, hVV⟩ : ∃ V, V = ceq (VT.mk k n b s xs ks) (VT.mk k' n' b' s' xs' ks') := ⟨_, rfl⟩
  rw [← hVV] at hV ⊢
  clear hVV ih hv
  generalize (s == s') = b1 at hB hV
  generalize (ks == ks') = b2 at hS hV
  generalize ceq xs xs' = b3 at hE hV
  replace hV := Lib.hid hV
  rw [VT.av_eq, VT.av_eq, vcells_mk, vcells_mk]
  refine VC.told ent_19 Tryz.func19 rfl Tryz.ntmps19 (by simp) (by first | rfl | simp [AV.pureB, AV.pureL, pureL_c, pures]) (by first | rfl | simp [AV.pureB, AV.pureL, pureL_c, pures]) fun hb => ?_
  clear hb
  refine walkG ?_
  refine walkD (hB) ?_
  refine walkG ?_
  refine walkD (hS) ?_
  refine walkG ?_
  refine walkD (hE) ?_
  refine walkG ?_
  refine ⟨by first | exact .inr rfl | exact .inl rfl, ?_⟩; rw [Tryz.results19]; simp only [resOk, resV, go_sem, simprocAttr]
  rw [hV.out]
  exact .c _
set_option maxRecDepth 100000 in
set_option maxHeartbeats 800000 in
theorem vdeep_told : ∀ (m : Nat) (v : VT), SizeOf.sizeOf v ≤ m → vdeep v ≤ 1000 → v.sm 1000000 → Told Tryz.prog 21 [v.av] (.c (.v (.int .i64 (vdeep v)))) := by
  intro m
  induction m with
  | zero => intro v hv; cases v; simp at hv
  | succ m ih =>
  intro v hv hd hsm
  cases v with
  | mk k n b s xs ks =>
  obtain ⟨_, _, _, _, hxl, hxs⟩ := hsm
  rw [VT.av_eq, vcells_mk]
  refine VC.told ent_21 Tryz.func21 rfl Tryz.ntmps21 (by simp) (by first | rfl | simp [AV.pureB, AV.pureL, pureL_c, pures]) (by first | rfl | simp [AV.pureB, AV.pureL, pureL_c, pures]) fun hb => ?_
  clear hb
  refine walkG ?_
  rcases (by omega : (k ≠ 9 ∧ k ≠ 11 ∧ k ≠ 12 ∧ k ≠ 13) ∨ k = 9 ∨ k = 11 ∨ k = 12 ∨ k = 13) with ⟨h9, h11, h12, h13⟩ | hk
  · have e9 : (k == 9) = false := by simpa using h9
    have e11 : (k == 11) = false := by simpa using h11
    have e12 : (k == 12) = false := by simpa using h12
    have e13 : (k == 13) = false := by simpa using h13
    have hdd : vdeep (.mk k n b s xs ks) = 0 := by rw [vdeep, if_neg (by omega)]
    rw [hdd, e9]
    refine walkBF (And.intro e9 (And.intro e11 (And.intro e12 e13))) ?_
    refine ⟨by first | exact .inr rfl | exact .inl rfl, ?_⟩; rw [Tryz.results21]; simp only [resOk, resV, go_sem, simprocAttr]
    exact .c _
  have hdd : vdeep (.mk k n b s xs ks) = vdeeps 1 xs := by rw [vdeep, if_pos hk]
  rw [hdd] at hd ⊢
  clear hdd
  rcases hk with rfl | rfl | rfl | rfl
  all_goals
    refine walkB ?_
    refine VC.loop (ι := {i : Nat // i ≤ xs.length}) (fun i => [(3, .c (.v (.int .i64 (vdeeps 1 (xs.take i.1))))), (14, .c (.sl 6 (xs.map VT.cells))), (15, .c (.v (.int .i64 xs.length))), (16, .c (.v (.int .i64 i.1)))]) (fun _ => []) 0 (fun i => xs.length - i.1) ⟨0, Nat.zero_le _⟩ ?_ ?_
    · simp only [List.take_zero, vdeeps, List.map_nil, Weak, eq_self, used_is, sc_any, sc_c, sc_pp, sc_ref, sc_row, sc_agg, sc_fn, ScL, some_imp, List.forall_mem_map, go_sem, Int.reduceBEq, Int.reduceLE, Int.reduceLT, Int.reduceNeg, Nat.reduceAdd, Nat.reduceEqDiff, Nat.reduceLT, Nat.reduceLeDiff, Nat.reduceMul, Nat.reduceSub, reduceCtorEq, ↓reduceIte]
    rintro ⟨i, hi⟩
    refine walkG ?_
    refine VC.cond (by rfl) (by trivial) (fun hc => ?_) (fun hc => ?_)
    · simp only [decide_eq_true_eq] at hc
      have hlt : i < xs.length := by omega
      obtain ⟨x, hx⟩ : ∃ x, xs[i]? = some x := ⟨xs[i], List.getElem?_eq_getElem hlt⟩
      have hxm := List.mem_of_getElem? hx
      have hle := (vdeeps_le xs 1).2 x hxm
      have hcall := ih x (by
        have h1 := List.sizeOf_lt_of_mem hxm
        simp at hv
        omega) (by omega) (vsmL_mem hxs x hxm)
      have hmm : vdeeps 1 (xs.take (i + 1)) = max (vdeeps 1 (xs.take i)) (1 + vdeep x) := by
        rw [← vdeeps_snoc, List.take_add_one, hx]
        rfl
      have hxp : (xs.map VT.cells)[i]? = some x.cells := by rw [List.getElem?_map, hx]; rfl
      rw [VT.av_eq] at hcall
      have hw : IntKind.i64.wrap (1 + (vdeep x : Int)) = 1 + (vdeep x : Int) := wrap64_id (by omega) (by omega)
      have hw2 : IntKind.i64.wrap ((i : Int) + 1) = (i : Int) + 1 := wrap64_id (by omega) (by omega)
      refine walkGF (And.intro hxp (And.intro @len_vcells (And.intro @take_vcells @take_vcellsC))) ?_
      refine walkCF (@pureL_c) (hcall) ?_
      refine walkGF (And.intro hw hw2) ?_
      refine .next ⟨i + 1, by omega⟩ ?_ (by simp only []; omega)
      simp only [hmm, Weak, eq_self, used_is, sc_any, sc_c, sc_pp, sc_ref, sc_row, sc_agg, sc_fn, ScL, some_imp, List.forall_mem_map, go_sem, Int.reduceBEq, Int.reduceLE, Int.reduceLT, Int.reduceNeg, Nat.reduceAdd, Nat.reduceEqDiff, Nat.reduceLT, Nat.reduceLeDiff, Nat.reduceMul, Nat.reduceSub, reduceCtorEq, ↓reduceIte]
      exact ⟨cI (by omega), cI (by omega)⟩
    · simp only [decide_eq_false_iff_not] at hc
      obtain rfl : i = xs.length := by omega
      refine walkG ?_
      refine ⟨by first | exact .inr rfl | exact .inl rfl, ?_⟩; rw [Tryz.results21]; simp only [resOk, resV, go_sem, simprocAttr]
      rw [List.take_length]
      exact .c _
section

section
variable {P : Program} {N : Nat} {Q : Exit → ASt → Prop} {id : Nat} {o1 o2 : Oper} {t : Nat → AV} {h : Nat → Option Blkd} {n d1 d2 : Nat}
end
end

theorem cellish_map (l : List PV) : ∀ x ∈ l.map AV.c, x.cellish = true := fun x hx => by
  obtain ⟨p, _, rfl⟩ := List.mem_map.1 hx
  rfl

def w11a : NT := ⟨11, [], [], [], [], false, [], 0, 1, []⟩
def w11b : NT := ⟨3, [], [], [], [], false, [], 0, 0, []⟩
def w11 : ST := ⟨[w11a, w11b], 0⟩
theorem w11_a : nodeM w11.nodes w11a = true := by
  unfold nodeM
  rw [if_neg (show ¬ w11a.kind = 9 by decide)]
  decide +kernel
theorem w11_b : nodeM w11.nodes w11b = true := by
  unfold nodeM
  rw [if_neg (show ¬ w11b.kind = 9 by decide)]
  decide +kernel
theorem w11_right : rightM w11 = true := by
  have h1 : orderedM w11 = true := by decide +kernel
  have h2 : diffM fullM (namesM w11.nodes) = true := by decide +kernel
  have h3 : rightL w11.nodes w11.nodes 0 (List.replicate w11.nodes.length 0) = true := by
    rw [show rightL w11.nodes w11.nodes = rightL w11.nodes [w11a, w11b] from rfl]
    rw [rightL, rightL, rightL, w11_a, w11_b]
    decide +kernel
  unfold rightM
  rw [h1, h2, h3]
  rfl
theorem w11_sm : w11.sm 1000000 := by
  refine ⟨by decide, fun n hn => ?_⟩
  simp only [w11, List.mem_cons, List.not_mem_nil, or_false] at hn
  rcases hn with rfl | rfl
  · exact ⟨by decide, by decide, ⟨by decide, by simp [w11a]⟩, ⟨by decide, by simp [w11a]⟩, by decide, by decide, by simp [w11a]⟩
  · exact ⟨by decide, by decide, ⟨by decide, by simp [w11b]⟩, ⟨by decide, by simp [w11b]⟩, by decide, by decide, by simp [w11b]⟩
section

section
variable {P : Program} {ops : Array Oper} {o : Oper} {ℓ : Nat} {t : Nat → AV} {h : Nat → Option Blkd}
theorem Rel.forget {C : Ctx P} {used : Nat → Prop} {N : Nat} {t1 : Nat → AV} {h1 : Nat → Option Blkd} {ro : Nat → Prop} {φ : Nat → Value} {a : Act} {W : World} (r : Rel C used N t1 h1 ro φ a W) {j : Nat} {B : Blkd} (hB : h1 j = some B) : Rel C used N t1 (upd h1 j none) (fun k => ro k ∨ blkOf (φ j) = some k) φ a W := by
  have hh : ∀ k B', upd h1 j none k = some B' → k ≠ j ∧ h1 k = some B' := by
    intro k B' hB'
    by_cases hkj : k = j
    · subst hkj
      rw [upd_same] at hB'
      simp at hB'
    · rw [upd_ne _ _ hkj] at hB'
      exact ⟨hkj, hB'⟩
  have hg : Goes used φ φ h1 (upd h1 j none) := fun k B' hu hB' => ⟨B', (hh k B' hB').2, .inr ⟨rfl, rfl, rfl⟩⟩
  have hsg : ∀ k B', used k → upd h1 j none k = some B' → ∃ B0, h1 k = some B0 ∧ B0.len ≤ B'.len := fun k B' hu hB' => ⟨B', (hh k B' hB').2, Nat.le_refl _⟩
  refine ⟨r.keep, r.defers, r.size, fun k => (r.tm k).map (r.scT k) (fun _ _ => rfl) (fun _ h => .inl h) hg,
    fun k B' hB' => ?_, fun k k' B1 B2 b' h2 h3 => r.inj k k' B1 B2 b' (hh k B1 h2).2 (hh k' B2 h3).2, fun k B' b' hB' hb' => ⟨fun hr => ?_, (r.own k B' b' (hh k B' hB').2 hb').2⟩, fun k hk' => ?_, fun k hk' => .inl (r.ro0 k hk'), fun k hk' => ?_,
    fun k => (r.scT k).map (fun _ h => h) hsg, fun k B' hB' => ⟨(r.scH k B' (hh k B' hB').2).1, fun e he x hx => ((r.scH k B' (hh k B' hB').2).2 e he x hx).map (fun _ h => h) hsg⟩, fun k n hn => ⟨(r.lent k n hn).1, (r.lent k n hn).2.1, fun B' hB' => (r.lent k n hn).2.2 B' (hh k B' hB').2⟩, r.glob⟩
  · obtain ⟨h2, h3⟩ := hh k B' hB'
    exact (r.hp k B' h3).map (r.scH k B' h3).2 (fun _ _ => rfl) (fun _ h => .inl h) hg rfl fun b' hb' => rfl
  · obtain ⟨h2, h3⟩ := hh k B' hB'
    rcases hr with hr | hr
    · exact (r.own k B' b' h3 hb').1 hr
    · exact r.inj j k B B' b' hB h3 (fun e => h2 e.symm) hr hb'
  · rcases hk' with hk' | hk'
    · exact r.rolt k hk'
    · exact r.blk_lt hB hk'
  · rcases hk' with hk' | hk'
    · exact r.ronew k hk'
    · rcases Nat.lt_or_ge k C.W0.heap.size with h2 | h2
      · exact .inr (.inr ((r.own j B k hB hk').2 h2))
      · exact .inr (.inl h2)
theorem J_callZ (f : FuncId) (xs : Array Operand) (tys : Array TypeId) (y : AV) (j n : Nat) (B : Blkd) (es : List (List PV)) (l m : List AV) (ho : o.op = .call { callee := .value (.func f), args := xs, argTypes := tys }) (hx : ∀ x ∈ xs, okx t x)
    (hB : h j = some B) (hrow : B.row = true) (hn : B.len = n) (he : B.elems = es.map fun e => e.map .c) (hargs : xs.toList.map (ev t) = l ++ .row j n :: m) (hp : AV.pureL (l ++ .c (.sl B.z es) :: m) = true) (hT : Told P f (l ++ .c (.sl B.z es) :: m) y) :
    J P o ℓ t h ⟨y, [j], [(j, none)]⟩ := by
  intro C used N t1 h1 ro φ a W ht hh hu hd r K Q hK
  have hs : ∀ x ∈ xs, ev t1 x = ev t x ∧ okx t1 x = okx t x := fun x hx => ev_same ht (by simp [ho, Op.operands, Call.operands, hx])
  have hB1 : h1 j = some B := (hh j (by simp)).trans hB
  have hview := row_view r hB1 hrow he
  unfold Oper.wp
  have hex : (execOp a.eval o).run P W = .ok (.enter f (xs.toList.map a.eval).toArray) W := by
    have := hT.1 (xs.map a.eval) W
    simp only [execOp, ho, resolve, Act.eval, Deferred.ofValue, Sem.run_bind, Sem.run_pure, Result.andThen_ok, invoke, Array.append_empty, Array.empty_append]
    rw [this]
    congr 2
    apply Array.toList_inj.1
    rw [Array.toList_map]
  rw [hex]
  have hL := map_rep r hs hx
  rw [hargs] at hL
  have r2 := r.forget hB1
  have hpu := pure_ofL _ hp
  have hL2 : RepL W (fun k => ro k ∨ blkOf (φ j) = some k) φ (upd h1 j none) (l ++ .c (.sl B.z es) :: m) (xs.toList.map a.eval) := by
    refine ⟨by rw [hL.1]; simp, fun i x v h2 h3 => ?_⟩
    have hlen : (l ++ AV.row j n :: m).length = (l ++ AV.c (.sl B.z es) :: m).length := by simp
    by_cases hi : i = l.length
    · subst hi
      have h4 : (l ++ AV.row j n :: m)[l.length]? = some (.row j n) := by simp
      have h5 : (l ++ AV.c (.sl B.z es) :: m)[l.length]? = some (.c (.sl B.z es)) := by simp
      rw [h5] at h2
      obtain rfl := Option.some.inj h2
      have hr := hL.2 l.length _ v h4 h3
      cases hr with
      | row _ hv =>
        obtain rfl := hv B hB1 hn
        exact .c hview
    · have h4 : (l ++ AV.row j n :: m)[i]? = some x := by
        rw [← h2]
        rcases Nat.lt_or_ge i l.length with h6 | h6
        · rw [List.getElem?_append_left h6, List.getElem?_append_left h6]
        · rw [List.getElem?_append_right h6, List.getElem?_append_right h6]
          obtain ⟨q, hq⟩ : ∃ q, i - l.length = q + 1 := ⟨i - l.length - 1, by omega⟩
          rw [hq, List.getElem?_cons_succ, List.getElem?_cons_succ]
      have hr := hL.2 i x v h4 h3
      have hpx := hpu x (List.mem_of_getElem? h2)
      exact (hr.map hpx.sc (fun _ _ => rfl) (fun _ h => .inl h) (used := used) (φ' := φ) (h' := upd h1 j none) fun k B' hu' hB' => by
        by_cases hkj : k = j
        · subst hkj
          rw [upd_same] at hB'
          simp at hB'
        · rw [upd_ne _ _ hkj] at hB'
          exact ⟨B', hB', .inr ⟨rfl, rfl, rfl⟩⟩)
  refine told_wp hT hpu r2 hL2 hd fun a' W' ro' φ' r' => hK a' W' ro' φ' ?_
  exact r'.take fun j hj => .inl hj
end
end

def w19x : VT := .mk 3 3 0 [] [] []
def w19y : VT := .mk 3 27 0 [] [] []
def w19v : VT := .mk 11 0 0 [] [w19x, w19y] []
theorem w19_1 : decM w11.nodes 20 0 [4, 6, 54, 0] 0 = .ok (w19v, 4) := by kernel_rfl
theorem w19_2 : decM w11.nodes 20 0 [3, 0, 6, 54, 0] 0 = .ok (w19v, 5) := by kernel_rfl
theorem dall_go {s : ST} {a : Int} {B : List UInt8} {v : VT} (h1 : 0 ≤ a) (h2 : a < (s.nodes.length : Int)) (h3 : rightM s = true) (h4 : decM s.nodes 20 a B 0 = .ok (v, B.length)) : dallM s a B = (v, 0) := by
  unfold dallM
  rw [takeM_go (by rw [h3]; simp; omega), show ((0 : Int)).toNat = 0 from rfl, h4]
  simp
theorem w19_a : dallM w11 0 [4, 6, 54, 0] = (w19v, 0) := dall_go (by decide) (by decide) w11_right w19_1
theorem w19_b : dallM w11 0 [3, 0, 6, 54, 0] = (w19v, 0) := dall_go (by decide) (by decide) w11_right w19_2
set_option maxRecDepth 100000 in
set_option maxHeartbeats 1600000 in
theorem works19_told : Told Tryz.prog 31 [] (.c (.v (.bool true))) := by
  have hA := dall_told w11 w11_sm 0 [4, 6, 54, 0] (by decide)
  have hB := dall_told w11 w11_sm 0 [3, 0, 6, 54, 0] (by decide)
  have hS := vsame_told _ w19v w19v (Nat.le_refl _)
  rw [ceq_self] at hS
  rw [w19_a] at hA
  rw [w19_b] at hB
  simp only [ST.av_eq, scells_mk] at hA hB
  refine VC.told ent_31 Tryz.func31 rfl Tryz.ntmps31 (by simp) (by first | rfl | simp [AV.pureB, AV.pureL, pureL_c, pures]) (by first | rfl | simp [AV.pureB, AV.pureL, pureL_c, pures]) fun hb => ?_
  clear hb
  (refine VC.seq ?_; (first | refine VC.region (by rfl) (by rfl) ?_ | refine VC.draw mixP (by rfl) (by rfl) ?_); (repeat (refine AO.step fun K hK => ?_; simp only [go_sem, Int.reduceBEq, Int.reduceLE, Int.reduceLT, Int.reduceNeg, Nat.reduceAdd, Nat.reduceEqDiff, Nat.reduceLT, Nat.reduceLeDiff, Nat.reduceMul, Nat.reduceSub, reduceCtorEq, ↓reduceIte]; (first | refine gsel_skip ?_ | refine gsel_go ?_ | skip); (first | refine hK _ _ _ ?_ | refine ⟨by first | omega | exact ⟨_, rfl, rfl⟩ | exact fun _ => ⟨_, rfl, rfl⟩ | (intro h; simp only [h, true_and]; omega) | (clear hK; intro h; simp_all <;> omega), hK _ _ _ ?_⟩); clear hK K)); refine AO.nil ?_; first | refine SQ.normal ?_ | refine ⟨okd_of (by kernel_rfl), SQ.normal ?_⟩)
  (refine VC.seq ?_; (first | refine VC.region (by rfl) (by rfl) ?_ | refine VC.draw mixP (by rfl) (by rfl) ?_); (repeat (refine AO.step fun K hK => ?_; simp only [go_sem, Int.reduceBEq, Int.reduceLE, Int.reduceLT, Int.reduceNeg, Nat.reduceAdd, Nat.reduceEqDiff, Nat.reduceLT, Nat.reduceLeDiff, Nat.reduceMul, Nat.reduceSub, reduceCtorEq, ↓reduceIte]; (first | refine gsel_skip ?_ | refine gsel_go ?_ | skip); (first | refine hK _ _ _ ?_ | refine ⟨by first | omega | exact ⟨_, rfl, rfl⟩ | exact fun _ => ⟨_, rfl, rfl⟩ | (intro h; simp only [h, true_and]; omega) | (clear hK; intro h; simp_all <;> omega), hK _ _ _ ?_⟩); clear hK K)); refine AO.nil ?_; first | refine SQ.normal ?_ | refine ⟨okd_of (by kernel_rfl), SQ.normal ?_⟩)
  refine VC.frz [] [(1, .ref 40 1 0 0)] [(24, ⟨true, 33, 10, [w11a.cells.map .c, [.c (.v (.int .i64 3)), .c (.v (.string ⟨#[]⟩)), .c (.v (.slice none 0 0)), .c (.v (.slice none 0 0)), .c (.v (.slice none 0 0)), .c (.v (.bool false)), .c (.v (.string ⟨#[]⟩)), .c (.v (.int .i64 0)), .c (.v (.int .i64 0)), .c (.v (.slice none 0 0))]]⟩), (40, ⟨false, 24, 2, [[.row 24 2, .c (.v (.int .i64 0))]]⟩)] 400 ?_ ?_
  · simp only [rA_sc, rA_len, WeakF, used_is, sc_any, sc_c, sc_pp, sc_ref, sc_row, sc_agg, sc_fn, ScL, some_imp, List.forall_mem_map, go_sem, Int.reduceBEq, Int.reduceLE, Int.reduceLT, Int.reduceNeg, Nat.reduceAdd, Nat.reduceEqDiff, Nat.reduceLT, Nat.reduceLeDiff, Nat.reduceMul, Nat.reduceSub, reduceCtorEq, ↓reduceIte]
    exact ⟨.same _, .set (i := 0) (e' := w11a.cells.map .c) rfl (.cons (.same _) (.cons (.same _) (.cons (.nil 1) (.cons (.nil 9) (.cons (.nil 1) (.cons (.same _) (.cons (.same _) (.cons (.same _) (.cons (.same _) (.cons (.nil 1) .nil)))))))))) (cellish_map _), .same _⟩
  refine VC.frz [] [(1, .ref 40 1 0 0)] [(24, ⟨true, 33, 10, [w11a.cells.map .c, w11b.cells.map .c]⟩), (40, ⟨false, 24, 2, [[.row 24 2, .c (.v (.int .i64 0))]]⟩)] 400 ?_ ?_
  · simp only [rA_sc, rA_len, WeakF, used_is, sc_any, sc_c, sc_pp, sc_ref, sc_row, sc_agg, sc_fn, ScL, some_imp, List.forall_mem_map, go_sem, Int.reduceBEq, Int.reduceLE, Int.reduceLT, Int.reduceNeg, Nat.reduceAdd, Nat.reduceEqDiff, Nat.reduceLT, Nat.reduceLeDiff, Nat.reduceMul, Nat.reduceSub, reduceCtorEq, ↓reduceIte]
    exact ⟨.same _, .set (i := 1) (e' := w11b.cells.map .c) rfl (.cons (.same _) (.cons (.same _) (.cons (.nil 1) (.cons (.nil 9) (.cons (.nil 1) (.cons (.same _) (.cons (.same _) (.cons (.same _) (.cons (.same _) (.cons (.nil 1) .nil)))))))))) (cellish_map _), .same _⟩
  refine VC.frz [24] [(1, .ref 40 1 0 0)] [(40, ⟨false, 24, 2, [[.c (.sl 10 (w11.nodes.map NT.cells)), .c (.v (.int .i64 w11.root))]]⟩)] 400 ?_ ?_
  · simp only [rA_sc, rA_len, WeakF, used_is, sc_any, sc_c, sc_pp, sc_ref, sc_row, sc_agg, sc_fn, ScL, some_imp, List.forall_mem_map, go_sem, Int.reduceBEq, Int.reduceLE, Int.reduceLT, Int.reduceNeg, Nat.reduceAdd, Nat.reduceEqDiff, Nat.reduceLT, Nat.reduceLeDiff, Nat.reduceMul, Nat.reduceSub, reduceCtorEq, ↓reduceIte]
    exact ⟨.same _, .one (.cons (.row (B := ⟨true, 33, 10, [w11a.cells.map .c, w11b.cells.map .c]⟩) (es := w11.nodes.map NT.cells) (by simp) rfl rfl rfl rfl) (.cons (.same _) .nil)) (by simp [AV.cellish])⟩
  have hW : w19v.cells = [.v (.int .i64 11), .v (.int .i64 0), .v (.int .u64 0), .sl 1 [], .sl 6 [[.v (.int .i64 3), .v (.int .i64 3), .v (.int .u64 0), .sl 1 [], .sl 6 [], .sl 1 []], [.v (.int .i64 3), .v (.int .i64 27), .v (.int .u64 0), .sl 1 [], .sl 6 [], .sl 1 []]], .sl 1 []] := by
    unfold w19v w19x w19y
    simp only [vcells_mk, List.map_cons, List.map_nil]
    rfl
  simp only [VT.av_eq, hW] at hA hB hS
  refine walkG ?_
  refine AO.stepJw rfl (J_mark _ _ _ _ 408 4 _ (bytePV [4, 6, 54, 0]) rfl tyA_40 rfl tyA_5 rfl (by trivial) rfl rfl rfl rfl (by decide) rfl) ?_
  refine walkC (hA) ?_
  refine walkG ?_
  refine AO.stepJw rfl (J_mark _ _ _ _ 488 5 _ (bytePV [3, 0, 6, 54, 0]) rfl tyA_40 rfl tyA_5 rfl (by trivial) rfl rfl rfl rfl (by decide) rfl) ?_
  refine walkC (hB) ?_
  refine walkG ?_
  refine walkC (hS) ?_
  refine walkG ?_
  refine ⟨by first | exact .inr rfl | exact .inl rfl, ?_⟩; rw [Tryz.results31]; simp only [resOk, resV, go_sem, simprocAttr]
  exact .c _

mutual
def vbulk (d : Nat) : VT → Nat
  | .mk k n w s xs ks => if 80 < d ∨ 2500 < s.length ∨ 2500 < xs.length ∨ 2500 < ks.length then 2501 else match bkeys5 (1 + s.length) ks with | none => 2501 | some n => vitems d n xs
def vitems (d : Nat) : Nat → List VT → Nat
  | n, [] => n
  | n, x :: xs => if n ≤ 2500 then vitems d (n + vbulk (d + 1) x) xs else n
end
mutual
theorem vbulk_le (d : Nat) : ∀ (t : VT), vbulk d t ≤ 5001 + 2501 * (81 - d)
  | .mk k n w s xs ks => by
    rw [vbulk]
    split
    · omega
    · rename_i h
      split
      · omega
      · rename_i m hm
        exact vitems_le d xs m (by have := bkeys5_le ks _ _ (by omega) hm; omega)
theorem vitems_le (d : Nat) : ∀ (xs : List VT) (n : Nat), n ≤ 5001 + 2501 * (81 - d) → vitems d n xs ≤ 5001 + 2501 * (81 - d)
  | [], n, h => by rw [vitems]; exact h
  | x :: xs, n, h => by
    rw [vitems]
    split
    · have := vbulk_le (d + 1) x
      by_cases hd : 80 < d
      · have h2 : vbulk (d + 1) x = 2501 := by
          cases x
          rw [vbulk, if_pos (by omega)]
        exact vitems_le d xs _ (by omega)
      · exact vitems_le d xs _ (by omega)
    · exact h
end
theorem vitems_ge (d : Nat) : ∀ (xs : List VT) (n : Nat), n ≤ vitems d n xs
  | [], n => by rw [vitems]; exact Nat.le_refl _
  | x :: xs, n => by
    rw [vitems]
    split
    · exact Nat.le_trans (Nat.le_add_right _ _) (vitems_ge d xs _)
    · exact Nat.le_refl _
mutual
theorem vbulk_deep (d : Nat) : ∀ (t : VT), vbulk d t ≤ 2500 → vdeep t + d ≤ 81
  | .mk k n w s xs ks => fun h => by
    rw [vbulk] at h
    split at h
    · omega
    · rename_i hd
      split at h
      · omega
      · rw [vdeep]
        split
        · exact vitems_deep d xs _ 1 (by omega) h
        · omega
theorem vitems_deep (d : Nat) : ∀ (xs : List VT) (n m : Nat), m + d ≤ 81 → vitems d n xs ≤ 2500 → vdeeps m xs + d ≤ 81
  | [], n, m, hm, h => by rw [vdeeps]; exact hm
  | x :: xs, n, m, hm, h => by
    rw [vitems] at h
    split at h
    · have h1 := vitems_ge d xs (n + vbulk (d + 1) x)
      have h2 := vbulk_deep (d + 1) x (by omega)
      rw [vdeeps]
      exact vitems_deep d xs _ _ (by omega) h
    · omega
end
theorem vitems_step {d : Nat} {xs : List VT} {i n : Nat} {x : VT} (hx : xs[i]? = some x) (hn : n ≤ 2500) : vitems d n (xs.drop i) = vitems d (n + vbulk (d + 1) x) (xs.drop (i + 1)) := by
  obtain ⟨hlt, rfl⟩ := List.getElem?_eq_some_iff.1 hx
  rw [List.drop_eq_getElem_cons hlt, vitems, if_pos hn]
theorem vitems_end {d : Nat} {xs : List VT} {i n : Nat} (h : ¬ (i < xs.length ∧ n ≤ 2500)) : vitems d n (xs.drop i) = n := by
  by_cases hlt : i < xs.length
  · rw [List.drop_eq_getElem_cons hlt, vitems, if_neg (by omega)]
  · rw [List.drop_of_length_le (by omega), vitems]
set_option maxRecDepth 100000 in
set_option maxHeartbeats 800000 in
theorem vbulk_told : ∀ (m : Nat) (t : VT), SizeOf.sizeOf t ≤ m → ∀ (d : Nat) (z : Int), d ≤ 81 → z = (d : Int) → Told Tryz.prog 57 [t.av, .c (.v (.int .i64 2500)), .c (.v (.int .i64 z))] (.c (.v (.int .i64 (vbulk d t)))) := by
  intro m
  induction m with
  | zero => intro t ht; cases t; simp at ht
  | succ m ih =>
  intro t ht d z hd hz
  cases t with
  | mk k n w s xs ks =>
  have hbl := vbulk_le d (.mk k n w s xs ks)
  have hbi := vitems_le d xs
  refine VC.told ent_57 Tryz.func57 rfl Tryz.ntmps57 (by simp) (by first | rfl | simp [AV.pureB, AV.pureL, pureL_c, pures]) (by first | rfl | simp [AV.pureB, AV.pureL, pureL_c, pures]) fun hb => ?_
  simp only [VT.av, vcells_mk, List.map_cons, List.map_nil, abd_agg, abd_c, pbd_v, pbd_sl, List.mem_cons, List.not_mem_nil, or_false, forall_eq_or_imp, forall_eq, true_and, List.length_map] at hb ⊢
  clear hb
  have hw21 : IntKind.i64.wrap (2500 + 1) = 2501 := by rfl
  rw [vbulk] at hbl ⊢
  refine walkGF (@bytePV_len) ?_
  refine VC.cond (by rfl) (by trivial) (fun hc => ?_) (fun hc => ?_)
  · have hcc : 80 < d ∨ 2500 < s.length ∨ 2500 < xs.length ∨ 2500 < ks.length := by
      simp at hc
      omega
    rw [if_pos hcc]
    refine walkGF (hw21) ?_
    refine ⟨.inr rfl, ?_⟩
    rw [Tryz.results57]
    simp only [resOk, resV, go_sem, simprocAttr]
    exact .c _
  · have hcc : ¬ (80 < d ∨ 2500 < s.length ∨ 2500 < xs.length ∨ 2500 < ks.length) := by
      simp at hc
      omega
    rw [if_neg hcc] at hbl ⊢
    clear hc
    obtain ⟨V, hV⟩ : ∃ V, V = bkeys5 (1 + s.length) ks := ⟨_, rfl⟩
    rw [← hV] at hbl ⊢
    have hw1 : IntKind.i64.wrap (1 + (s.length : Int)) = 1 + (s.length : Int) := wrap64_id (by omega) (by omega)
    refine walkGF (And.intro @vcells_mk (And.intro @bytePV_len hw1)) ?_
    refine VC.loop (ι := {p : Nat × Nat // p.1 ≤ ks.length ∧ p.2 ≤ 5001 ∧ bkeys5 p.2 (ks.drop p.1) = V}) (fun p => [(1, .c (.v (.int .i64 2500))), (2, .c (.v (.int .i64 z))), (3, .ref 0 1 0 0), (7, .c (.v (.int .i64 p.1.2))), (8, .c (.v (.int .i64 p.1.1)))])
      (fun _ => [(0, ⟨false, 43, 6, [(VT.mk k n w s xs ks).cells.map .c]⟩)]) 8 (fun p => ks.length - p.1.1) ⟨(0, 1 + s.length), Nat.zero_le _, by simp only []; omega, by simpa using hV.symm⟩ ?_ ?_
    · simp only [vcells_mk, Weak, eq_self, used_is, sc_any, sc_c, sc_pp, sc_ref, sc_row, sc_agg, sc_fn, ScL, some_imp, List.forall_mem_map, go_sem, Int.reduceBEq, Int.reduceLE, Int.reduceLT, Int.reduceNeg, Nat.reduceAdd, Nat.reduceEqDiff, Nat.reduceLT, Nat.reduceLeDiff, Nat.reduceMul, Nat.reduceSub, reduceCtorEq, ↓reduceIte]
      all_goals first | rfl | exact cI (by omega)
    rintro ⟨⟨i, b⟩, hi, hb, hbk⟩
    simp only [] at hi hb hbk ⊢
    refine walkGF (@vcells_mk) ?_
    refine VC.cond (by rfl) (by trivial) (fun hc => ?_) (fun hc => ?_)
    · have hcc : i < ks.length ∧ b ≤ 2500 := by
        simp at hc
        omega
      clear hc
      obtain ⟨y, hy⟩ : ∃ y, ks[i]? = some y := ⟨ks[i], List.getElem?_eq_getElem hcc.1⟩
      (repeat (first | refine pass ?_ | refine VC.region (by rfl) (by rfl) ?_ | (refine AO.step fun K hK => ?_; simp only [vcells_mk, List.getElem?_map, hy, sPV, str_size, go_sem, Int.reduceBEq, Int.reduceLE, Int.reduceLT, Int.reduceNeg, Nat.reduceAdd, Nat.reduceEqDiff, Nat.reduceLT, Nat.reduceLeDiff, Nat.reduceMul, Nat.reduceSub, reduceCtorEq, ↓reduceIte]; (first | refine gsel_skip ?_ | refine gsel_go ?_ | skip); (first | refine hK _ _ _ ?_ | refine ⟨by first | omega | exact ⟨_, rfl, rfl⟩ | exact fun _ => ⟨_, rfl, rfl⟩ | (intro h; simp only [vcells_mk, List.getElem?_map, hy, sPV, str_size, h, true_and]; omega) | (clear hK; intro h; simp_all <;> omega), hK _ _ _ ?_⟩); clear hK K) | refine VC.draw mixP (by rfl) (by rfl) ?_ | refine ⟨okd_of (by kernel_rfl), ?_⟩ | refine BQ.other (by decide) ?_ | refine VC.seq ?_ | refine AO.nil ?_ | refine VC.block ?_))
      refine VC.cond (by rfl) (by trivial) (fun hc => ?_) (fun hc => ?_)
      · have hl : 2500 < y.length := by
          simp at hc
          omega
        obtain rfl : V = none := hbk.symm.trans (bkeys5_none hy hcc.2 hl)
        refine walkGF (hw21) ?_
        refine ⟨.inr rfl, ?_⟩
        rw [Tryz.results57]
        simp only [resOk, resV, go_sem, simprocAttr]
        exact .c _
      · have hl : y.length ≤ 2500 := by
          simp at hc
          omega
        have hw2 : IntKind.i64.wrap ((b : Int) + 1) = (b : Int) + 1 := wrap64_id (by omega) (by omega)
        have hw3 : IntKind.i64.wrap ((b : Int) + 1 + (y.length : Int)) = (b : Int) + 1 + (y.length : Int) := wrap64_id (by omega) (by omega)
        have hw4 : IntKind.i64.wrap ((i : Int) + 1) = (i : Int) + 1 := wrap64_id (by omega) (by omega)
        (repeat (first | refine pass ?_ | refine VC.region (by rfl) (by rfl) ?_ | (refine AO.step fun K hK => ?_; simp only [vcells_mk, List.getElem?_map, hy, sPV, str_size, hw2, hw3, hw4, go_sem, Int.reduceBEq, Int.reduceLE, Int.reduceLT, Int.reduceNeg, Nat.reduceAdd, Nat.reduceEqDiff, Nat.reduceLT, Nat.reduceLeDiff, Nat.reduceMul, Nat.reduceSub, reduceCtorEq, ↓reduceIte]; (first | refine gsel_skip ?_ | refine gsel_go ?_ | skip); (first | refine hK _ _ _ ?_ | refine ⟨by first | omega | exact ⟨_, rfl, rfl⟩ | exact fun _ => ⟨_, rfl, rfl⟩ | (intro h; simp only [vcells_mk, List.getElem?_map, hy, sPV, str_size, hw2, hw3, hw4, h, true_and]; omega) | (clear hK; intro h; simp_all <;> omega), hK _ _ _ ?_⟩); clear hK K) | refine VC.draw mixP (by rfl) (by rfl) ?_ | refine ⟨okd_of (by kernel_rfl), ?_⟩ | refine BQ.other (by decide) ?_ | refine VC.seq ?_ | refine AO.nil ?_ | refine VC.block ?_))
        refine .next ⟨(i + 1, b + 1 + y.length), by simp only []; omega, by simp only []; omega, by simp only []; rw [← hbk, bkeys5_step hy hcc.2 hl]⟩ ?_ (by simp only []; omega)
        simp only [vcells_mk, Weak, eq_self, used_is, sc_any, sc_c, sc_pp, sc_ref, sc_row, sc_agg, sc_fn, ScL, some_imp, List.forall_mem_map, go_sem, Int.reduceBEq, Int.reduceLE, Int.reduceLT, Int.reduceNeg, Nat.reduceAdd, Nat.reduceEqDiff, Nat.reduceLT, Nat.reduceLeDiff, Nat.reduceMul, Nat.reduceSub, reduceCtorEq, ↓reduceIte]
        exact ⟨cI (by omega), cI (by omega)⟩
    · have hcc : ¬ (i < ks.length ∧ b ≤ 2500) := by
        simp at hc
        omega
      clear hc
      obtain rfl : V = some b := hbk.symm.trans (bkeys5_end hcc)
      simp only [] at hbl ⊢
      obtain ⟨V, hV2⟩ : ∃ V, V = vitems d b xs := ⟨_, rfl⟩
      rw [← hV2] at hbl ⊢
      refine walkG ?_
      refine VC.loop (ι := {p : Nat × Nat // p.1 ≤ xs.length ∧ p.2 ≤ 5001 + 2501 * (81 - d) ∧ vitems d p.2 (xs.drop p.1) = V}) (fun p => [(1, .c (.v (.int .i64 2500))), (2, .c (.v (.int .i64 z))), (3, .ref 0 1 0 0), (7, .c (.v (.int .i64 p.1.2))), (9, .c (.v (.int .i64 p.1.1)))])
        (fun _ => [(0, ⟨false, 43, 6, [(VT.mk k n w s xs ks).cells.map .c]⟩)]) 8 (fun p => xs.length - p.1.1) ⟨(0, b), Nat.zero_le _, by simp only []; omega, by simpa using hV2.symm⟩ ?_ ?_
      · simp only [vcells_mk, Weak, eq_self, used_is, sc_any, sc_c, sc_pp, sc_ref, sc_row, sc_agg, sc_fn, ScL, some_imp, List.forall_mem_map, go_sem, Int.reduceBEq, Int.reduceLE, Int.reduceLT, Int.reduceNeg, Nat.reduceAdd, Nat.reduceEqDiff, Nat.reduceLT, Nat.reduceLeDiff, Nat.reduceMul, Nat.reduceSub, reduceCtorEq, ↓reduceIte]
        all_goals rfl
      clear hi hcc hbk
      rintro ⟨⟨i, c⟩, hi, hcb, hbt⟩
      simp only [] at hi hcb hbt ⊢
      refine walkGF (@vcells_mk) ?_
      refine VC.cond (by rfl) (by trivial) (fun hc => ?_) (fun hc => ?_)
      · have hcc : i < xs.length ∧ c ≤ 2500 := by
          simp at hc
          omega
        clear hc
        obtain ⟨x, hx⟩ : ∃ x, xs[i]? = some x := ⟨xs[i], List.getElem?_eq_getElem hcc.1⟩
        have hxm := List.mem_of_getElem? hx
        have hsz : SizeOf.sizeOf x ≤ m := by
          have h1 := List.sizeOf_lt_of_mem hxm
          simp at ht
          omega
        have hcall := ih x hsz (d + 1) (z + 1) (by omega) (by omega)
        have hxb := vbulk_le (d + 1) x
        have hw1 : IntKind.i64.wrap (z + 1) = z + 1 := wrap64_id (by omega) (by omega)
        have hw2 : IntKind.i64.wrap ((c : Int) + (vbulk (d + 1) x : Int)) = (c : Int) + (vbulk (d + 1) x : Int) := wrap64_id (by omega) (by omega)
        have hw4 : IntKind.i64.wrap ((i : Int) + 1) = (i : Int) + 1 := wrap64_id (by omega) (by omega)
        (repeat (first | refine pass ?_ | refine VC.region (by rfl) (by rfl) ?_ | (refine AO.step fun K hK => ?_; simp only [vcells_mk, List.getElem?_map, hx, len_vcells, take_vcells, take_vcellsC, hw1, go_sem, Int.reduceBEq, Int.reduceLE, Int.reduceLT, Int.reduceNeg, Nat.reduceAdd, Nat.reduceEqDiff, Nat.reduceLT, Nat.reduceLeDiff, Nat.reduceMul, Nat.reduceSub, reduceCtorEq, ↓reduceIte]; (first | refine gsel_skip ?_ | refine gsel_go ?_ | skip); (first | refine hK _ _ _ ?_ | refine ⟨by first | omega | exact ⟨_, rfl, rfl⟩ | exact fun _ => ⟨_, rfl, rfl⟩ | (intro h; simp only [vcells_mk, List.getElem?_map, hx, len_vcells, take_vcells, take_vcellsC, hw1, h, true_and]; omega) | (clear hK; intro h; simp_all <;> omega), hK _ _ _ ?_⟩); clear hK K) | refine VC.draw mixP (by rfl) (by rfl) ?_ | refine ⟨okd_of (by kernel_rfl), ?_⟩ | refine BQ.other (by decide) ?_ | refine VC.seq ?_ | refine AO.nil ?_ | refine VC.block ?_))
        (refine AO.step fun K hK => ?_; simp only [go_sem, Int.reduceBEq, Int.reduceLE, Int.reduceLT, Int.reduceNeg, Nat.reduceAdd, Nat.reduceEqDiff, Nat.reduceLT, Nat.reduceLeDiff, Nat.reduceMul, Nat.reduceSub, reduceCtorEq, ↓reduceIte, pureL_c]; (first | refine gsel_go ?_ | skip))
        refine .inl ⟨_, hcall, hK _ _ _ ?_⟩
        clear hK K
        refine walkGF (And.intro hw2 hw4) ?_
        refine .next ⟨(i + 1, c + vbulk (d + 1) x), by simp only []; omega, by simp only []; omega, by simp only []; rw [← hbt, vitems_step hx hcc.2]⟩ ?_ (by simp only []; omega)
        simp only [vcells_mk, Weak, eq_self, used_is, sc_any, sc_c, sc_pp, sc_ref, sc_row, sc_agg, sc_fn, ScL, some_imp, List.forall_mem_map, go_sem, Int.reduceBEq, Int.reduceLE, Int.reduceLT, Int.reduceNeg, Nat.reduceAdd, Nat.reduceEqDiff, Nat.reduceLT, Nat.reduceLeDiff, Nat.reduceMul, Nat.reduceSub, reduceCtorEq, ↓reduceIte]
        exact ⟨cI (by omega), cI (by omega)⟩
      · have hcc : ¬ (i < xs.length ∧ c ≤ 2500) := by
          simp at hc
          omega
        obtain rfl : V = c := hbt.symm.trans (vitems_end hcc)
        refine walkG ?_
        refine ⟨.inr rfl, ?_⟩
        rw [Tryz.results57]
        simp only [resOk, resV, go_sem, simprocAttr]
        exact .c _
mutual
theorem vbulk_sm (d : Nat) : ∀ v : VT, v.inr → vbulk d v ≤ 2500 → v.sm 2500
  | .mk k n w s xs ks => fun hr h => by
    rw [vbulk] at h
    split at h
    · omega
    · rename_i h1
      split at h
      · omega
      · rename_i m hm
        have h2 := vitems_ge d xs m
        obtain ⟨_, h3⟩ := bkeys5_len ks _ m hm (by omega)
        exact ⟨hr.1, by omega, by omega, h3, by omega, vitems_sm d m xs hr.2 h⟩
theorem vitems_sm (d n : Nat) : ∀ xs : List VT, VT.inrL xs → vitems d n xs ≤ 2500 → VT.smL 2500 xs
  | [] => fun _ _ => trivial
  | x :: xs => fun hr h => by
    rw [vitems] at h
    split at h
    · have := vitems_ge d xs (n + vbulk (d + 1) x)
      exact ⟨vbulk_sm (d + 1) x hr.1 (by omega), vitems_sm d _ xs hr.2 h⟩
    · omega
end
set_option maxRecDepth 100000 in
set_option maxHeartbeats 400000 in
theorem vgreat_told (v : VT) : Told Tryz.prog 16 [v.av] (.c (.v (.bool (decide (2500 < vbulk 0 v))))) := by
  have hK := vbulk_told _ v (Nat.le_refl _) 0 0 (by omega) rfl
  have hBk := hK
  clear hK
  have e : decide (2500 < vbulk 0 v) = decide ((vbulk 0 v : Int) > 2500) := decide_eq_decide.2 (by omega)
  rw [e]
  rw [VT.av_eq] at hBk ⊢
  refine VC.told ent_16 Tryz.func16 rfl Tryz.ntmps16 (by simp) (by first | rfl | simp [AV.pureB, AV.pureL, pureL_c, pures]) (by first | rfl | simp [AV.pureB, AV.pureL, pureL_c, pures]) fun hb => ?_
  clear hb
  refine walkGF (And.intro @len_vcells (And.intro @take_vcells @take_vcellsC)) ?_
  refine walkCF (@pureL_c) (hBk) ?_
  refine walkG ?_
  refine ⟨by first | exact .inr rfl | exact .inl rfl, ?_⟩; rw [Tryz.results16]; simp only [resOk, resV, go_sem, simprocAttr]
  exact .c _

def kw : List (List UInt8) → Nat
  | [] => 0
  | y :: ys => 1 + y.length + kw ys
mutual
def vw : VT → Nat
  | .mk k n b t xs ks => 1 + t.length + kw ks + vwL xs
def vwL : List VT → Nat
  | [] => 0
  | x :: xs => vw x + vwL xs
end
theorem vw_pos (v : VT) : 1 ≤ vw v := by cases v; rw [vw]; omega
def BL : List Enc → Nat → Prop
  | [], _ => True
  | f :: fs, N => ∃ w r, w + r ≤ N ∧ (∀ c, (f c).1.length ≤ w) ∧ BL fs r
theorem BL.le : ∀ {fs : List Enc} {N M : Nat}, BL fs N → N ≤ M → BL fs M
  | [], _, _, _, _ => trivial
  | f :: fs, N, M, ⟨w, r, h1, h2, h3⟩, h => ⟨w, r, by omega, h2, h3⟩
theorem BL.cut : ∀ {fs : List Enc} {N : Nat} (n : Nat), BL fs N → ∃ a b, a + b ≤ N ∧ BL (fs.take n) a ∧ BL (fs.drop n) b
  | fs, N, 0, h => ⟨0, N, by omega, by simp [BL], by simpa using h⟩
  | [], N, n + 1, h => ⟨0, 0, by omega, trivial, trivial⟩
  | f :: fs, N, n + 1, ⟨w, r, h1, h2, h3⟩ => by
    obtain ⟨a, b, h4, h5, h6⟩ := BL.cut n h3
    exact ⟨w + a, b, by omega, ⟨w, a, Nat.le_refl _, h2, h5⟩, h6⟩
theorem seqF_len : ∀ {fs : List Enc} {N : Nat}, BL fs N → ∀ c, (seqF fs c).1.length ≤ N
  | [], N, _, c => by simp [seqF]
  | f :: fs, N, ⟨w, r, h1, h2, h3⟩, c => by
    rw [seqF, List.length_append]
    have a := h2 c
    have b := seqF_len h3 (f c).2
    omega
theorem headB_len (n : Nat) (sized : Bool) (m : Nat) (hn : n ≤ 1000000000) (hm : m ≤ 1000000000) : (headB n sized m).length ≤ 20 := by
  have a := vput_len (-(n : Int)) (by omega) (by omega)
  have b := vput_len (m : Int) (by omega) (by omega)
  have c := vput_len (n : Int) (by omega) (by omega)
  unfold headB
  split
  · rw [List.length_append]; omega
  · omega
theorem blkF_len (cuts : List Int) : ∀ (k : Nat) (fs : List Enc) (N : Nat), BL fs N → N ≤ 1000000000 → fs.length ≤ 1000000000 → ∀ c, (blkF cuts k fs c).1.length ≤ N + 20 * fs.length + 10
  | 0, fs, N, _, _, _, c => by
    have := vput_len 0 (by decide) (by decide)
    rw [blkF]
    simp only []
    omega
  | k + 1, [], N, _, _, _, c => by
    have := vput_len 0 (by decide) (by decide)
    rw [blkF]
    simp only []
    omega
  | k + 1, f :: fs, N, h, hN, hl, c => by
    rw [blkF]
    simp only []
    have hp := cutM_pos cuts c (fs.length + 1) (by omega)
    obtain ⟨a, b, h1, h2, h3⟩ := h.cut (cutM cuts c (fs.length + 1)).1
    simp at hl
    have s1 := seqF_len h2 (cutM cuts c (fs.length + 1)).2.2
    have s2 := headB_len (cutM cuts c (fs.length + 1)).1 (cutM cuts c (fs.length + 1)).2.1 (seqF ((f :: fs).take (cutM cuts c (fs.length + 1)).1) (cutM cuts c (fs.length + 1)).2.2).1.length (by omega) (by omega)
    have s3 := blkF_len cuts k ((f :: fs).drop (cutM cuts c (fs.length + 1)).1) b h3 (by omega) (by simp; omega) (seqF ((f :: fs).take (cutM cuts c (fs.length + 1)).1) (cutM cuts c (fs.length + 1)).2.2).2
    rw [List.length_drop] at s3
    simp only [List.length_append, List.length_cons] at s3 ⊢
    omega
theorem leaf_len (nd : NT) (k n b : Int) (t : List UInt8) (ht : t.length ≤ 1000000) (h1 : -9223372036854775808 ≤ n) (h2 : n ≤ 9223372036854775807) : (leafM nd k n b t).length ≤ 10 + t.length := by
  have a := vput_len n h1 h2
  have c := vput_len (t.length : Int) (by omega) (by omega)
  have d := bitsB_len b 4
  have e := bitsB_len b 8
  unfold leafM
  split
  · simp
    omega
  · split
    · omega
    · split
      · omega
      · split
        · omega
        · split
          · rw [List.length_append]; omega
          · split
            · omega
            · simp
mutual
theorem enc_len (ns : List NT) (cuts : List Int) : ∀ (v : VT), v.sm 1000000 → v.lng → vw v ≤ 1000000 → ∀ (a : Int) (c : Nat), (encM ns cuts a v c).1.length + 30 ≤ 60 * vw v
  | .mk k n b t xs ks, hs, hl, hw, a, c => by
    obtain ⟨_, ht, _, hk, hx, hxs⟩ := hs
    obtain ⟨⟨hn1, hn2⟩, hls⟩ := hl
    rw [vw] at hw ⊢
    have hB := fun f => encs_len2 ns cuts xs hxs hls (by omega) f
    rw [encM]
    split
    · simp
      omega
    · rename_i nd hnd
      split
      · obtain ⟨N, hN, hb⟩ := hB (fun j => typeAt nd j)
        have := seqF_len hb c
        simp only []
        omega
      · split
        · obtain ⟨N, hN, hb⟩ := hB (fun _ => nd.items)
          have hel := encs_len ns cuts xs (fun _ => nd.items)
          have := blkF_len cuts xs.length _ N hb (by omega) (by omega) c
          simp only []
          omega
        · split
          · obtain ⟨N, hN, hb⟩ := hB (fun _ => nd.items)
            have hel := encs_len ns cuts xs (fun _ => nd.items)
            have hz : ∀ (ks : List (List UInt8)) (fs : List Enc) (N : Nat), (∀ y ∈ ks, y.length ≤ 1000000) → BL fs N → BL (List.zipWith keyF ks fs) (N + 10 * fs.length + kw ks) := by
              intro ks
              induction ks with
              | nil => intro fs N _ _; simp [BL]
              | cons y ys ih =>
                intro fs N hy h
                cases fs with
                | nil => simp [BL]
                | cons f fs =>
                  obtain ⟨w, r, h1, h2, h3⟩ := h
                  have hv := vput_len (y.length : Int) (by have := hy y (by simp); omega) (by have := hy y (by simp); omega)
                  refine ⟨w + 10 + y.length, r + 10 * fs.length + kw ys, by simp [kw]; omega, fun c => ?_, ih fs r (fun z hz => hy z (by simp [hz])) h3⟩
                  have := h2 c
                  simp only [keyF, List.length_append]
                  omega
            have hzz := hz ks _ N hk hb
            have hzl : (List.zipWith keyF ks (encsM ns cuts (fun _ => nd.items) xs)).length ≤ xs.length := by rw [List.length_zipWith]; omega
            have := blkF_len cuts xs.length _ _ hzz (by omega) (by omega) c
            simp only []
            omega
          · split
            · obtain ⟨N, hN, hb⟩ := hB (fun _ => branchAt nd n)
              have a1 := seqF_len hb c
              have a2 := vput_len n hn1 hn2
              simp only [List.length_append]
              omega
            · have := leaf_len nd nd.kind n b t ht hn1 hn2
              simp only []
              omega
theorem encs_len2 (ns : List NT) (cuts : List Int) : ∀ (xs : List VT), VT.smL 1000000 xs → VT.lngL xs → vwL xs ≤ 1000000 → ∀ (f : Nat → Int), ∃ N, N + 30 * xs.length ≤ 60 * vwL xs ∧ BL (encsM ns cuts f xs) N
  | [], _, _, _, f => ⟨0, by simp [vwL], by rw [encsM]; trivial⟩
  | x :: xs, hs, hl, hw, f => by
    rw [vwL] at hw ⊢
    obtain ⟨N, h1, h2⟩ := encs_len2 ns cuts xs hs.2 hl.2 (by omega) (fun i => f (i + 1))
    have hp := vw_pos x
    refine ⟨(60 * vw x - 30) + N, by simp; omega, ?_⟩
    rw [encsM]
    exact ⟨60 * vw x - 30, N, Nat.le_refl _, fun c => by have := enc_len ns cuts x hs.1 hl.1 (by omega) (f 0) c; omega, h2⟩
end
theorem bkeys_kw : ∀ (ks : List (List UInt8)) (n m : Nat), bkeys5 n ks = some m → m ≤ 2500 → n + kw ks = m
  | [], n, m, e, h => by rw [bkeys5] at e; obtain rfl := Option.some.inj e; rfl
  | y :: ys, n, m, e, h => by
    have hl := bkeys5_len (y :: ys) n m e h
    rw [bkeys5] at e
    split at e
    · split at e
      · simp at e
      · have := bkeys_kw ys _ m e h
        rw [kw]
        omega
    · obtain rfl := Option.some.inj e
      simp at hl
      omega
mutual
theorem vbulk_vw (d : Nat) : ∀ v : VT, vbulk d v ≤ 2500 → vw v ≤ vbulk d v
  | .mk k n w s xs ks => fun h => by
    rw [vbulk] at h ⊢
    split at h
    · omega
    · rename_i h1
      rw [if_neg h1]
      split at h
      · omega
      · rename_i m hm
        have h2 := vitems_ge d xs m
        have h3 := bkeys_kw ks _ m hm (by omega)
        have h4 := vitems_vw d xs m h
        rw [vw]
        omega
theorem vitems_vw (d : Nat) : ∀ (xs : List VT) (n : Nat), vitems d n xs ≤ 2500 → n + vwL xs ≤ vitems d n xs
  | [], n => fun h => by rw [vitems, vwL]; exact Nat.le_refl _
  | x :: xs, n => fun h => by
    rw [vitems] at h ⊢
    split at h
    · rename_i hn
      rw [if_pos hn, vwL]
      have h1 := vitems_ge d xs (n + vbulk (d + 1) x)
      have h2 := vbulk_vw (d + 1) x (by omega)
      have h3 := vitems_vw d xs _ h
      omega
    · omega
end

theorem unbits_bits (b : Int) : ∀ k : Nat, unbits (bitsB b k) = b.toNat % 256 ^ k
  | 0 => by simp [bitsB, unbits, Nat.mod_one]
  | k + 1 => by
    rw [bitsB, unbits_snoc, unbits_bits b k, bitsB_len, Nat.pow_succ, Nat.mod_mul]
    have : ((b.toNat / 256 ^ k).toUInt8).toNat = b.toNat / 256 ^ k % 256 := by simp
    rw [this, Nat.mul_comm]
theorem back_bits {b : Int} {k : Nat} (h0 : 0 ≤ b) (h1 : b < ((256 ^ k : Nat) : Int)) : Back (rbits k) (bitsB b k) b := by
  have h := back_next (bitsB b k)
  rw [bitsB_len] at h
  refine back_last h ?_
  rw [unbits_bits, Nat.mod_eq_of_lt (by omega), show ((b.toNat : Nat) : Int) = b from by omega]
theorem back_bool {n : Int} (h : n = 0 ∨ n = 1) : Back rbool [if n = 0 then (0 : UInt8) else 1] n := by
  refine back_last (back_next [if n = 0 then (0 : UInt8) else 1]) ?_
  rcases h with rfl | rfl
  · simp [unbits]
  · simp [unbits]
theorem back_bytes {l : List UInt8} (h : l.length ≤ 20000) : Back rbytes (vput (l.length : Int) ++ l) l := by
  refine back_bind (back_long (n := (l.length : Int)) (by omega) (by omega)) ?_
  rw [if_neg (by omega), if_neg (by omega), Int.toNat_natCast]
  exact back_next l
theorem back_text {l : List UInt8} (h : l.length ≤ 20000) (hr : isRight l = true) : Back rtext (vput (l.length : Int) ++ l) l :=
  back_last (back_bytes h) (by rw [if_pos hr])
theorem back_place {f : Rd Int} {l : List UInt8} {n : Int} {many : Nat} (hf : Back f l n) (h0 : 0 ≤ n) (h1 : n < (many : Int)) : Back (rplace f many) l n :=
  back_last hf (by rw [if_neg (by omega)])
theorem back_count {k n : Nat} (hk : n + k ≤ 300) (h0 : 0 < n) (sized : Bool) {m : Nat} (hm : m ≤ 1000000000) : Back (rcount k) (headB n sized m) n := by
  unfold headB
  split
  · refine back_bind (back_long (n := -(n : Int)) (by omega) (by omega)) ?_
    rw [if_pos (by omega)]
    refine back_last (back_long (n := (m : Int)) (by omega) (by omega)) ?_
    rw [if_neg (by omega), show (- -(n : Int)).toNat = n from by omega]
  · refine back_last (back_long (n := (n : Int)) (by omega) (by omega)) ?_
    rw [if_neg (by omega), if_neg (by omega), Int.toNat_natCast]
theorem back_end {k : Nat} (hk : k ≤ 300) : Back (rcount k) (vput 0) 0 := by
  refine back_last (back_long (n := 0) (by decide) (by decide)) ?_
  rw [if_neg (by omega), if_neg (by omega)]
  rfl
def BackL (item : Rd (List (List UInt8) × VT)) : List Enc → List (List (List UInt8) × VT) → Prop
  | [], ps => ps = []
  | f :: fs, ps => ∃ x xs, ps = x :: xs ∧ (∀ c, Back item (f c).1 x) ∧ BackL item fs xs
theorem BackL.len {item : Rd (List (List UInt8) × VT)} : ∀ {fs : List Enc} {ps : List (List (List UInt8) × VT)}, BackL item fs ps → ps.length = fs.length
  | [], ps, h => by rw [h]; rfl
  | f :: fs, ps, h => by
    obtain ⟨x, xs, rfl, _, h⟩ := h
    rw [List.length_cons, List.length_cons, BackL.len h]
theorem BackL.cut {item : Rd (List (List UInt8) × VT)} : ∀ (n : Nat) {fs : List Enc} {ps : List (List (List UInt8) × VT)}, BackL item fs ps → BackL item (fs.take n) (ps.take n) ∧ BackL item (fs.drop n) (ps.drop n)
  | 0, fs, ps, h => by
    rw [List.take_zero, List.take_zero]
    exact ⟨rfl, h⟩
  | n + 1, [], ps, h => by
    obtain rfl := h
    exact ⟨rfl, rfl⟩
  | n + 1, f :: fs, ps, h => by
    obtain ⟨x, xs, rfl, h1, h2⟩ := h
    obtain ⟨h3, h4⟩ := BackL.cut n h2
    exact ⟨⟨x, xs.take n, rfl, h1, h3⟩, h4⟩
theorem back_row {item : Rd (List (List UInt8) × VT)} : ∀ (fs : List Enc) (ps : List (List (List UInt8) × VT)) (xs : List VT) (ks : List (List UInt8)) (c : Nat), BackL item fs ps → Back (rrow item fs.length xs ks) (seqF fs c).1 (xs ++ ps.map (·.2), ks ++ (ps.map (·.1)).flatten)
  | [], ps, xs, ks, c, h => by
    obtain rfl := h
    rw [seqF]
    have := back_ret (xs, ks)
    simpa [rrow] using this
  | f :: fs, ps, xs, ks, c, h => by
    obtain ⟨x, ys, rfl, h1, h2⟩ := h
    rw [seqF, List.length_cons, rrow]
    refine back_bind (h1 c) ?_
    have := back_row fs ys (xs ++ [x.2]) (ks ++ x.1) (f c).2 h2
    simpa using this
theorem back_blks (cuts : List Int) {item : Rd (List (List UInt8) × VT)} : ∀ (k : Nat) (fs : List Enc) (ps : List (List (List UInt8) × VT)) (z : Nat) (xs : List VT) (ks : List (List UInt8)) (c : Nat), BackL item fs ps → fs.length ≤ k → xs.length + fs.length ≤ 300 → fs.length < z → (blkF cuts k fs c).1.length ≤ 1000000000 →
    Back (rblks item z xs ks) (blkF cuts k fs c).1 (xs ++ ps.map (·.2), ks ++ (ps.map (·.1)).flatten) := by
  intro k
  induction k with
  | zero =>
    intro fs ps z xs ks c h hk hx hz _
    obtain rfl := List.eq_nil_of_length_eq_zero (Nat.le_zero.1 hk)
    obtain rfl := h
    obtain ⟨z, rfl⟩ : ∃ y, z = y + 1 := ⟨z - 1, by omega⟩
    rw [blkF, rblks]
    refine back_last (back_end (by omega)) ?_
    simp
  | succ k ih =>
    intro fs ps z xs ks c h hk hx hz hO
    obtain ⟨z, rfl⟩ : ∃ y, z = y + 1 := ⟨z - 1, by omega⟩
    cases fs with
    | nil =>
      obtain rfl := h
      rw [blkF, rblks]
      refine back_last (back_end (by simpa using hx)) ?_
      simp
    | cons f fs =>
      rw [blkF] at hO ⊢
      simp only [] at hO ⊢
      have hcp := cutM_pos cuts c (fs.length + 1) (by omega)
      obtain ⟨n, sized, e, hQ⟩ : ∃ n s e, cutM cuts c (fs.length + 1) = (n, s, e) := ⟨_, _, _, rfl⟩
      rw [hQ] at hO hcp ⊢
      simp only [] at hO hcp ⊢
      simp only [List.length_append, List.length_cons] at hO hx hk hz
      obtain ⟨h3, h4⟩ := h.cut n
      have hlen := h.len
      have hn1 : ((f :: fs).take n).length = n := by rw [List.length_take, List.length_cons]; omega
      rw [rblks]
      refine back_bind (back_count (by omega) (by omega) sized (by omega)) ?_
      rw [if_neg (by omega)]
      have h5 := back_row _ _ xs ks e h3
      rw [hn1] at h5
      refine back_bind h5 ?_
      have hl2 : (xs ++ (ps.take n).map (·.2)).length = xs.length + n := by
        rw [List.length_append, List.length_map, List.length_take, hlen, List.length_cons]
        omega
      have := ih _ _ z (xs ++ (ps.take n).map (·.2)) (ks ++ ((ps.take n).map (·.1)).flatten) (seqF ((f :: fs).take n) e).2 h4 (by rw [List.length_drop, List.length_cons]; omega) (by rw [hl2, List.length_drop, List.length_cons]; omega) (by rw [List.length_drop, List.length_cons]; omega) (by omega)
      have e1 : xs ++ ps.map (·.2) = xs ++ (ps.take n).map (·.2) ++ (ps.drop n).map (·.2) := by rw [List.append_assoc, ← List.map_append, List.take_append_drop]
      have e2 : ks ++ (ps.map (·.1)).flatten = ks ++ ((ps.take n).map (·.1)).flatten ++ ((ps.drop n).map (·.1)).flatten := by rw [List.append_assoc, ← List.flatten_append, ← List.map_append, List.take_append_drop]
      rw [e1, e2]
      exact this
theorem back_fields {f : Int → Rd VT} : ∀ (ts : List FT) (fs : List Enc) (zs xs : List VT) (c : Nat), fs.length = ts.length → zs.length = ts.length → (∀ (i : Nat) (g : Enc) (z : VT), fs[i]? = some g → zs[i]? = some z → ∀ c, Back (f (tyL ts i)) (g c).1 z) → Back (rfields f ts xs) (seqF fs c).1 (xs ++ zs)
  | [], fs, zs, xs, c, h1, h2, _ => by
    obtain rfl := List.eq_nil_of_length_eq_zero h1
    obtain rfl := List.eq_nil_of_length_eq_zero h2
    rw [seqF, rfields, List.append_nil]
    exact back_ret xs
  | t :: ts, [], zs, xs, c, h1, _, _ => by simp at h1
  | t :: ts, g :: fs, [], xs, c, _, h2, _ => by simp at h2
  | t :: ts, g :: fs, z :: zs, xs, c, h1, h2, h => by
    rw [seqF, rfields]
    refine back_bind (h 0 g z rfl rfl c) ?_
    have := back_fields ts fs zs (xs ++ [z]) (g c).2 (by simpa using h1) (by simpa using h2) fun i g' z' h3 h4 => h (i + 1) g' z' h3 h4
    simpa using this
theorem back_leaf {nd : NT} {n b : Int} {t : List UInt8} (hh : headM nd nd.kind n b t 0 [] = true) (hk : isComp nd.kind = false) (hb : 0 ≤ b ∧ b < 18446744073709551616) (hg : -9223372036854775808 ≤ n ∧ n ≤ 9223372036854775807) (h10 : nd.kind = 10 → nd.symbols.length ≤ 40) :
    Back (rleaf nd) (leafM nd nd.kind n b t) (.mk nd.kind n b t [] []) := by
  have hk9 : nd.kind ≠ 9 ∧ nd.kind ≠ 11 ∧ nd.kind ≠ 12 ∧ nd.kind ≠ 13 := by
    unfold isComp at hk
    simp at hk
    omega
  unfold headM at hh
  simp only [Bool.and_eq_true, beq_iff_eq, decide_eq_true_eq] at hh
  obtain ⟨⟨_, hvb, ht⟩, hr⟩ := hh
  obtain ⟨v1, v2, v3, _, _⟩ := vbare_parts hvb
  unfold rleaf leafM
  by_cases h2 : nd.kind = 2
  · obtain rfl := v2 (by omega)
    obtain rfl := v3 (by omega)
    rw [if_pos h2, if_pos h2]
    rw [if_pos h2] at hr
    simp at hr
    exact back_last (back_bool hr) rfl
  rw [if_neg h2] at hr ⊢
  rw [if_neg h2]
  by_cases h3 : nd.kind = 3
  · obtain rfl := v2 (by omega)
    obtain rfl := v3 (by omega)
    rw [if_pos h3, if_pos (by omega)]
    rw [if_pos h3] at hr
    simp at hr
    exact back_last (back_int hr.1 hr.2) rfl
  rw [if_neg h3] at hr ⊢
  by_cases h4 : nd.kind = 4
  · obtain rfl := v2 (by omega)
    obtain rfl := v3 (by omega)
    rw [if_pos h4, if_pos (by omega)]
    exact back_last (back_long hg.1 hg.2) rfl
  rw [if_neg h4]
  by_cases h5 : nd.kind = 5
  · obtain rfl := v1 (by omega)
    obtain rfl := v3 (by omega)
    rw [if_pos h5, if_neg (by omega), if_pos h5]
    rw [if_pos h5] at hr
    simp at hr
    exact back_last (back_bits hb.1 hr) rfl
  rw [if_neg h5] at hr ⊢
  by_cases h6 : nd.kind = 6
  · obtain rfl := v1 (by omega)
    obtain rfl := v3 (by omega)
    rw [if_pos h6, if_neg (by omega), if_neg h5, if_pos h6]
    exact back_last (back_bits hb.1 hb.2) rfl
  rw [if_neg h6]
  by_cases h7 : nd.kind = 7
  · obtain rfl := v1 (by omega)
    obtain rfl := v2 (by omega)
    rw [if_pos h7, if_neg (by omega), if_neg h5, if_neg h6, if_pos (by omega)]
    exact back_last (back_bytes ht) rfl
  rw [if_neg h7]
  by_cases h8 : nd.kind = 8
  · obtain rfl := v1 (by omega)
    obtain rfl := v2 (by omega)
    rw [if_pos h8, if_neg (by omega), if_neg h5, if_neg h6, if_pos (by omega)]
    rw [if_pos h8] at hr
    exact back_last (back_text ht hr) rfl
  rw [if_neg h8] at hr ⊢
  by_cases h14 : nd.kind = 14
  · obtain rfl := v1 (by omega)
    obtain rfl := v2 (by omega)
    rw [if_pos h14, if_neg (by omega), if_neg h5, if_neg h6, if_neg (by omega), if_pos h14]
    rw [if_pos h14] at hr
    simp at hr
    have h := back_next t
    rw [show t.length = nd.size.toNat from by omega] at h
    exact back_last h rfl
  rw [if_neg h14] at hr ⊢
  by_cases h10' : nd.kind = 10
  · obtain rfl := v2 (by omega)
    obtain rfl := v3 (by omega)
    have h40 := h10 h10'
    rw [if_pos h10', if_pos (by omega)]
    rw [if_pos h10'] at hr
    simp at hr
    exact back_last (back_place (back_int (by omega) (by omega)) hr.1 hr.2) rfl
  obtain rfl := v1 (by omega)
  obtain rfl := v2 (by omega)
  obtain rfl := v3 (by omega)
  rw [if_neg h10', if_neg (by omega), if_neg h5, if_neg h6, if_neg (by omega), if_neg h14]
  exact back_ret _
theorem backL_plain {item : Rd (List (List UInt8) × VT)} {ns : List NT} {cuts : List Int} {a : Int} {f : Rd VT} (hi : item = ritem false f) : ∀ xs : List VT, (∀ x ∈ xs, ∀ c, Back f (encM ns cuts a x c).1 x) → BackL item (encsM ns cuts (fun _ => a) xs) (xs.map fun x => ([], x))
  | [], _ => by rw [encsM]; rfl
  | x :: xs, h => by
    rw [encsM]
    refine ⟨_, _, rfl, fun c => ?_, backL_plain hi xs fun y hy => h y (by simp [hy])⟩
    rw [hi, ritem, if_neg (by decide)]
    exact back_last (h x (by simp) c) rfl
theorem backL_keys {item : Rd (List (List UInt8) × VT)} {ns : List NT} {cuts : List Int} {a : Int} {f : Rd VT} (hi : item = ritem true f) : ∀ (ks : List (List UInt8)) (xs : List VT), ks.length = xs.length → (∀ y ∈ ks, keyM y = true) → (∀ x ∈ xs, ∀ c, Back f (encM ns cuts a x c).1 x) →
    BackL item (List.zipWith keyF ks (encsM ns cuts (fun _ => a) xs)) (List.zipWith (fun y x => ([y], x)) ks xs)
  | [], [], _, _, _ => by rw [encsM]; rfl
  | [], x :: xs, h, _, _ => by simp at h
  | y :: ks, [], h, _, _ => by simp at h
  | y :: ks, x :: xs, hl, hk, h => by
    rw [encsM, List.zipWith_cons_cons, List.zipWith_cons_cons]
    refine ⟨_, _, rfl, fun c => ?_, backL_keys hi ks xs (by simpa using hl) (fun z hz => hk z (by simp [hz])) fun z hz => h z (by simp [hz])⟩
    have hy := hk y (by simp)
    unfold keyM at hy
    simp at hy
    rw [hi, ritem, if_pos rfl, keyF]
    refine back_bind (back_text hy.1 hy.2) ?_
    exact back_last (h x (by simp) c) rfl
theorem zip_vals : ∀ (ks : List (List UInt8)) (xs : List VT), ks.length = xs.length → (List.zipWith (fun y x => (([y] : List (List UInt8)), x)) ks xs).map (·.2) = xs ∧ ((List.zipWith (fun y x => (([y] : List (List UInt8)), x)) ks xs).map (·.1)).flatten = ks
  | [], [], _ => ⟨rfl, rfl⟩
  | [], x :: xs, h => by simp at h
  | y :: ks, [], h => by simp at h
  | y :: ks, x :: xs, h => by
    obtain ⟨h1, h2⟩ := zip_vals ks xs (by simpa using h)
    rw [List.zipWith_cons_cons, List.map_cons, List.map_cons, List.flatten_cons, h1, h2]
    exact ⟨rfl, rfl⟩
theorem vinrL_mem2 : ∀ {xs : List VT}, VT.inrL xs → ∀ x ∈ xs, x.inr
  | x :: xs, h, y, hy => by
    rcases List.mem_cons.1 hy with rfl | hy
    · exact h.1
    · exact vinrL_mem2 h.2 y hy
theorem vwL_mem2 : ∀ (xs : List VT), ∀ x ∈ xs, vw x ≤ vwL xs
  | y :: ys, x, hx => by
    rw [vwL]
    rcases List.mem_cons.1 hx with rfl | hx
    · omega
    · have := vwL_mem2 ys x hx
      omega
theorem dec_back {s : ST} (hr : rightM s = true) (cuts : List Int) : ∀ (z : Nat) (v : VT), SizeOf.sizeOf v ≤ z → ∀ (d : Nat) (a : Int), 0 ≤ a → isM s.nodes a v = true → vdeep v ≤ d → v.inr → v.lng → vw v ≤ 1000000 → v.sm 1000000 → ∀ c, Back (decM s.nodes d a) (encM s.nodes cuts a v c).1 v := by
  intro z
  induction z with
  | zero => intro v hv; cases v; simp at hv
  | succ z ih =>
  intro v hv d a ha hm hd hir hlg hw hsm c
  have hlen := enc_len s.nodes cuts v hsm hlg hw a c
  have hvz := hv
  cases v with
  | mk k n b t xs ks =>
  obtain ⟨nd, hnd⟩ : ∃ nd, s.nodes[a.toNat]? = some nd := by
    cases h : s.nodes[a.toNat]? with
    | none => rw [isM, h] at hm; simp at hm
    | some nd => exact ⟨nd, rfl⟩
  have hN := right_nodes hr nd (List.mem_of_getElem? hnd)
  unfold nodeM at hN
  simp only [Bool.and_eq_true] at hN
  have hS := hN.2.2
  obtain ⟨rfl, hvb, ht2, p9, p12, p13, p14, p2, p5⟩ := isM_parts hnd hm
  have hxs : ∀ d', vdeep (.mk nd.kind n b t xs ks) ≤ d' + 1 → ∀ (i : Nat) (x : VT), xs[i]? = some x → ∀ c, Back (decM s.nodes d' (itemAt nd n i)) (encM s.nodes cuts (itemAt nd n i) x c).1 x := fun d' hd' i x hx c => by
    have hI := item_in hr hnd hm hx
    have hmem := List.mem_of_getElem? hx
    refine ih x ?_ d' _ hI.2.1 hI.1 ?_ ?_ ?_ ?_ ?_ c
    · have h3 := List.sizeOf_lt_of_mem hmem
      simp at hv
      omega
    · have hkk : nd.kind = 9 ∨ nd.kind = 11 ∨ nd.kind = 12 ∨ nd.kind = 13 := by
        by_cases h : nd.kind = 9 ∨ nd.kind = 11 ∨ nd.kind = 12 ∨ nd.kind = 13
        · exact h
        · have := vbare_items hvb (by omega) (by omega) (by omega) (by omega)
          have := (List.getElem?_eq_some_iff.1 hx).1
          omega
      rw [vdeep, if_pos hkk] at hd'
      have := (vdeeps_le xs 1).2 x hmem
      omega
    · exact vinrL_mem2 hir.2 x hmem
    · exact vlngL_mem hlg.2 x hmem
    · rw [vw] at hw
      have := vwL_mem2 xs x hmem
      omega
    · exact vsmL_mem hsm.2.2.2.2.2 x hmem
  clear ih
  have hh := hm
  rw [isM_eq hnd, Bool.and_eq_true] at hh
  cases hk : isComp nd.kind with
  | false =>
    have hk9 : nd.kind ≠ 9 ∧ nd.kind ≠ 11 ∧ nd.kind ≠ 12 ∧ nd.kind ≠ 13 := by
      unfold isComp at hk
      simp at hk
      omega
    obtain rfl : xs = [] := List.eq_nil_of_length_eq_zero (vbare_items hvb hk9.1 hk9.2.1 hk9.2.2.1 hk9.2.2.2)
    obtain rfl : ks = [] := vbare_keys hvb hk9.2.2.1
    rw [decM_leaf hnd hk, encM, hnd]
    simp only []
    rw [if_neg hk9.1, if_neg hk9.2.1, if_neg hk9.2.2.1, if_neg hk9.2.2.2]
    refine back_leaf hh.1 hk hir.1 hlg.1 fun h10 => ?_
    rw [if_neg (by omega), if_pos h10] at hS
    simp only [Bool.and_eq_true, decide_eq_true_eq] at hS
    exact hS.2.2.1
  | true =>
  have hkk : nd.kind = 9 ∨ nd.kind = 11 ∨ nd.kind = 12 ∨ nd.kind = 13 := by
    unfold isComp at hk
    simp at hk
    omega
  have hd1 := hd
  rw [vdeep, if_pos hkk] at hd1
  obtain ⟨d, rfl⟩ : ∃ d', d = d' + 1 := ⟨d - 1, by have := (vdeeps_le xs 1).1; omega⟩
  have hys := hxs d hd
  clear hxs
  rw [decM_succ hnd hk, rcomp]
  rw [encM, hnd] at hlen ⊢
  simp only [] at hlen ⊢
  obtain ⟨v1, v2, v3, _, v5⟩ := vbare_parts hvb
  obtain rfl := v2 (by omega)
  obtain rfl := v3 (by omega)
  by_cases h9 : nd.kind = 9
  · obtain rfl := v1 (by omega)
    obtain rfl := v5 (by omega)
    rw [if_pos h9, if_pos h9]
    refine back_last (x := xs) ?_ rfl
    have hel := encs_len s.nodes cuts xs (fun j => typeAt nd j)
    have hx9 := p9 h9
    refine back_fields nd.fields _ xs [] c (by rw [hel, hx9]) hx9 fun i g x hg hx c => ?_
    rw [encs_at s.nodes cuts xs _ i x hx] at hg
    obtain rfl := Option.some.inj hg
    have := hys i x hx c
    rw [itemAt, if_pos h9] at this
    exact this
  rw [if_neg h9] at hlen ⊢
  rw [if_neg h9]
  by_cases h13 : nd.kind = 13
  · obtain rfl := v5 (by omega)
    obtain ⟨q1, q2, q3⟩ := p13 h13
    obtain ⟨x, rfl⟩ := List.length_eq_one_iff.1 q3
    rw [if_pos h13, if_neg (by omega), if_neg (by omega), if_pos h13]
    refine back_bind (back_place (back_long hlg.1.1 hlg.1.2) q1 q2) ?_
    rw [encsM, encsM, seqF, seqF]
    simp only [List.append_nil]
    have := hys 0 x rfl c
    rw [itemAt, if_neg h9, if_pos h13] at this
    exact back_last this rfl
  rw [if_neg h13]
  obtain rfl := v1 (by omega)
  have hat : ∀ i, itemAt nd 0 i = nd.items := fun i => by rw [itemAt, if_neg h9, if_neg h13]
  have hmem : ∀ x ∈ xs, ∀ c, Back (decM s.nodes d nd.items) (encM s.nodes cuts nd.items x c).1 x := fun x hx c => by
    obtain ⟨i, hi⟩ := List.getElem?_of_mem hx
    have := hys i x hi c
    rwa [hat] at this
  have h300 : xs.length ≤ 300 := by
    have := hh.1
    unfold headM at this
    simp only [Bool.and_eq_true] at this
    have := this.2
    rcases hkk with h | h | h | h
    · omega
    · rw [h] at this
      simpa using this
    · rw [h] at this
      simp at this
      exact this.2
    · omega
  by_cases h11 : nd.kind = 11
  · obtain rfl := v5 (by omega)
    rw [if_pos h11] at hlen ⊢
    refine back_last (x := (xs, [])) ?_ rfl
    have hb := backL_plain (item := ritem (nd.kind == 12) (decM s.nodes d nd.items)) (by rw [h11]; rfl) xs hmem
    have := back_blks cuts xs.length _ _ 301 [] [] c hb (by rw [encs_len]; exact Nat.le_refl _) (by rw [encs_len]; simpa using h300) (by rw [encs_len]; omega) (by omega)
    have e1 : (xs.map fun x => (([] : List (List UInt8)), x)).map (·.2) = xs := by rw [List.map_map]; exact List.map_id xs
    have e2 : ((xs.map fun x => (([] : List (List UInt8)), x)).map (·.1)).flatten = [] := by rw [List.map_map]; simp
    rw [e1, e2] at this
    exact this
  · have h12 : nd.kind = 12 := by omega
    rw [if_neg h11, if_pos h12] at hlen ⊢
    have hkl := p12 h12
    have hka : ∀ y ∈ ks, keyM y = true := by
      have := hh.1
      unfold headM at this
      simp only [Bool.and_eq_true] at this
      have := this.2
      rw [h12] at this
      simp at this
      exact this.1.2
    refine back_last (x := (xs, ks)) ?_ rfl
    have hb := backL_keys (item := ritem (nd.kind == 12) (decM s.nodes d nd.items)) (by rw [h12]; rfl) ks xs hkl hka hmem
    have hzl : (List.zipWith keyF ks (encsM s.nodes cuts (fun _ => nd.items) xs)).length = xs.length := by rw [List.length_zipWith, encs_len, hkl, Nat.min_self]
    have := back_blks cuts xs.length _ _ 301 [] [] c hb (by rw [hzl]; exact Nat.le_refl _) (by rw [hzl]; simpa using h300) (by rw [hzl]; omega) (by omega)
    obtain ⟨e1, e2⟩ := zip_vals ks xs hkl
    rw [e1, e2] at this
    exact this
section
open Go.RowKit Go.ChangeShapes Go.WideShapes Go.ChangeAt
inductive TyPV (P : Program) : TypeId → List PV → Prop
  | bool {t : TypeId} {b : Bool} (ht : P.underlying t = some .bool) : TyPV P t [.v (.bool b)]
  | int {t : TypeId} {k : IntKind} {n : Int} (ht : P.underlying t = some (.int k)) (hw : (Lit.int k n).wf = true) : TyPV P t [.v (.int k n)]
  | str {t : TypeId} {s : ByteArray} (ht : P.underlying t = some .string) (hs : s.size ≤ maxLen) : TyPV P t [.v (.string s)]
  | sl {t e : TypeId} {es : List (List PV)} (ht : P.underlying t = some (.slice e)) (hx : ∀ q ∈ es, TyPV P e q) : TyPV P t [.sl (P.cellsOf e) es]
  | struct {t : TypeId} {fs : Array Field} {ps : List PV} (ht : P.underlying t = some (.struct fs)) (hl : ps.length = P.cellsOf t)
      (hx : ∀ (i : Nat) (f : Field), fs[i]? = some f → TyPV P f.type ((ps.drop f.offset).take (P.cellsOf f.type))) : TyPV P t ps
def tiles (P : Program) : List Field → Nat → Nat → Bool
  | [], o, n => o == n
  | f :: fs, o, n => f.offset == o && tiles P fs (o + P.cellsOf f.type) n
def plainB (P : Program) (l : List TypeId) : Bool := l.all fun t => match P.underlying t with
  | some .bool => P.cellsOf t == 1 | some (.int _) => P.cellsOf t == 1 | some .string => P.cellsOf t == 1
  | some (.slice e) => l.contains e && decide (0 < P.cellsOf e) && (P.cellsOf t == 1)
  | some (.struct fs) => tiles P fs.toList 0 (P.cellsOf t) && fs.toList.all fun f => l.contains f.type
  | _ => false
theorem list_of {α : Type} {p : Nat → α → Prop} : ∀ (n : Nat), (∀ i, i < n → ∃ y, p i y) → ∃ l : List α, l.length = n ∧ ∀ (i : Nat) (y : α), l[i]? = some y → p i y
  | 0, _ => ⟨[], rfl, fun i y h => by simp at h⟩
  | n + 1, h => by
    obtain ⟨l, h1, h2⟩ := list_of n fun i hi => h i (by omega)
    obtain ⟨y, hy⟩ := h n (by omega)
    refine ⟨l ++ [y], by simp [h1], fun i z hz => ?_⟩
    by_cases hi : i < l.length
    · rw [List.getElem?_append_left hi] at hz
      exact h2 i z hz
    · rw [List.getElem?_append_right (by omega)] at hz
      cases hj : i - l.length with
      | zero =>
        rw [hj] at hz
        simp at hz
        subst hz
        rw [show i = n by omega]
        exact hy
      | succ j => rw [hj] at hz; simp at hz
section
variable {P : Program} {w : World}
theorem PRepL.cons_app {ro : Nat → Prop} {p q : List PV} {v u : List Value} (h : PRepL w ro p v) (h' : PRepL w ro q u) : PRepL w ro (p ++ q) (v ++ u) := by
  refine ⟨by simp [h.1, h'.1], fun j x y h1 h2 => ?_⟩
  by_cases hj : j < p.length
  · rw [List.getElem?_append_left hj] at h1
    rw [List.getElem?_append_left (by rw [h.1]; exact hj)] at h2
    exact h.2 j x y h1 h2
  · rw [List.getElem?_append_right (by omega)] at h1
    rw [List.getElem?_append_right (by rw [h.1]; omega), h.1] at h2
    exact h'.2 _ x y h1 h2
theorem tile_rep {ro : Nat → Prop} {cs : List Value} {n : Nat} (hn : cs.length = n) : ∀ (fs : List Field) (o : Nat), o ≤ n → tiles P fs o n = true →
    (∀ f ∈ fs, ∃ q, PRepL w ro q ((cs.drop f.offset).take (P.cellsOf f.type)) ∧ q.length = P.cellsOf f.type ∧ TyPV P f.type q) →
    ∃ ps, PRepL w ro ps (cs.drop o) ∧ ps.length = n - o ∧ ∀ (i : Nat) (f : Field), fs[i]? = some f → o ≤ f.offset ∧ TyPV P f.type ((ps.drop (f.offset - o)).take (P.cellsOf f.type)) := by
  intro fs
  induction fs with
  | nil =>
    intro o ho ht _
    simp [tiles] at ht
    subst ht
    exact ⟨[], ⟨by simp [← hn], by simp⟩, by simp, by simp⟩
  | cons f fs ih =>
    intro o ho ht hf
    simp only [tiles, Bool.and_eq_true, beq_iff_eq] at ht
    obtain ⟨h1, h2⟩ := ht
    obtain ⟨q, hq1, hq2, hq3⟩ := hf f (by simp)
    have hle : o + P.cellsOf f.type ≤ n := by
      have := hq1.1
      rw [hq2, List.length_take, List.length_drop, h1, hn] at this
      omega
    obtain ⟨ps, hp1, hp2, hp3⟩ := ih _ hle h2 fun g hg => hf g (by simp [hg])
    have hsp : cs.drop o = (cs.drop o).take (P.cellsOf f.type) ++ cs.drop (o + P.cellsOf f.type) := by
      rw [← List.drop_drop, List.take_append_drop]
    refine ⟨q ++ ps, ?_, by simp [hq2, hp2]; omega, fun i g hg => ?_⟩
    · rw [hsp]
      rw [h1] at hq1
      exact hq1.cons_app hp1
    · cases i with
      | zero =>
        simp at hg
        subst hg
        refine ⟨by omega, ?_⟩
        rw [h1, Nat.sub_self, List.drop_zero, ← hq2, List.take_left]
        exact hq3
      | succ i =>
        simp at hg
        obtain ⟨h3, h4⟩ := hp3 i g hg
        refine ⟨by omega, ?_⟩
        rw [show g.offset - o = q.length + (g.offset - (o + P.cellsOf f.type)) by omega, List.drop_append, List.drop_of_length_le (by omega), List.nil_append, Nat.add_sub_cancel_left]
        exact h4
variable {H : Type} {enc : TypeId × Value → H} {sp : Nat → Bool} {held : Bool}
theorem lit_prep {W : World} {ro : Nat → Prop} {v : Value} (hv : v.oneCell' = true) : PRepL W ro [.v v] [v] := ⟨rfl, fun j p u h1 h2 => by
  cases j with
  | zero => simp at h1 h2; subst h1 h2; exact .v hv
  | succ j => simp at h1⟩
theorem open_pv {l : List TypeId} (hl : plainB P l = true) : ∀ (fuel : Nat) (t : TypeId) (cs : List Value) (x : DataW H × List MemPlace), t ∈ l → DataW.trod enc P w 0 sp held fuel t cs = some x →
    ∃ ps, PRepL w (fun b => b < w.heap.size) ps cs ∧ ps.length = P.cellsOf t ∧ TyPV P t ps := by
  intro fuel
  induction fuel using Nat.strongRecOn with
  | ind fuel ih =>
  intro t cs x ht h
  have hk := List.all_eq_true.1 hl t ht
  split at hk
  · rename_i hu
    obtain ⟨b, rfl, _⟩ := DataW.trod_bool hu h
    exact ⟨_, lit_prep rfl, (by simpa using hk : P.cellsOf t = 1).symm, .bool hu⟩
  · rename_i k hu
    obtain ⟨n, rfl, _, hw⟩ := DataW.trod_int hu h
    exact ⟨_, lit_prep rfl, (by simpa using hk : P.cellsOf t = 1).symm, .int hu hw⟩
  · rename_i hu
    obtain ⟨s, rfl, _, hs⟩ := DataW.trod_string hu h
    exact ⟨_, lit_prep rfl, (by simpa using hk : P.cellsOf t = 1).symm, .str hu hs⟩
  · rename_i e hu
    simp only [Bool.and_eq_true, List.contains_iff_mem, decide_eq_true_eq, beq_iff_eq] at hk
    obtain ⟨⟨he, hz⟩, hone⟩ := hk
    rcases DataW.trod_slice hu h with ⟨rfl, _⟩ | ⟨a, len, cap, elems, rest, n, rfl, rfl, _, hb, h1, h2, h3, h4, _, _⟩
    · exact ⟨[.sl (P.cellsOf e) []], ⟨rfl, fun j p u g1 g2 => by
        cases j with
        | zero => simp at g1 g2; subst g1 g2; exact PRep.nil _ _ _
        | succ j => simp at g1⟩, hone.symm, .sl hu (by simp)⟩
    · have hex : ∀ i, i < len → ∃ y : List Value × List PV, w.cells? 0 (a.add (i * P.cellsOf e)) (P.cellsOf e) = some y.1 ∧ PRepL w (fun b => b < w.heap.size) y.2 y.1 ∧ y.2.length = P.cellsOf e ∧ TyPV P e y.2 := by
        intro i hi
        have h5 := h4 i hi
        rw [List.getElem?_eq_getElem (show i < elems.length by omega), Option.bind_eq_some_iff] at h5
        obtain ⟨vs, h6, h7⟩ := h5
        obtain ⟨q, h8, h9, h10⟩ := ih n (by omega) e vs _ he h7
        exact ⟨(vs, q), h6, h8, h9, h10⟩
      obtain ⟨L, hL, hLx⟩ := list_of len hex
      have hcell : ∀ (i : Nat) (y : List Value × List PV), L[i]? = some y → y.1.length = P.cellsOf e ∧ ∀ j, j < P.cellsOf e → w.cell? ((a.add (i * P.cellsOf e)).add j) = y.1[j]? := fun i y hy => (World.cells?_some (hLx i y hy).1).2
      have hlen : len = (L.map (·.2)).length := by simp [hL]
      refine ⟨[.sl (P.cellsOf e) (L.map (·.2))], ⟨rfl, fun j p u g1 g2 => ?_⟩, hone.symm, .sl hu fun q hq => ?_⟩
      · cases j with
        | succ j => simp at g1
        | zero =>
        simp at g1 g2
        subst g1 g2
        rw [hlen]
        refine .sl (vss := L.map (·.1)) (by omega) (by unfold maxLen at h2; omega) (fun hn => by simp at hn) (fun hne => ?_) (by simp) (fun i q hq => ?_) (fun i vs hvs => ?_) (fun i j q vs p u hq hvs hp hv => ?_)
        · have hpos : 0 < L.length := List.length_pos_iff.2 (by intro e; apply hne; simp [e])
          obtain ⟨y0, hy0⟩ : ∃ y, L[0]? = some y := ⟨L[0], List.getElem?_eq_getElem hpos⟩
          obtain ⟨c1, c2⟩ := hcell 0 y0 hy0
          have c3 := c2 0 hz
          rw [List.getElem?_eq_getElem (show 0 < y0.1.length by omega)] at c3
          simp only [Nat.zero_mul] at c3
          have hspot := World.cell?_spot c3
          have hlt : a.block < w.heap.size := by
            unfold World.cell? at c3
            have : (a.add 0).add 0 = a := by simp [Addr.add]
            rw [this] at c3
            split at c3
            · rename_i hh
              exact (Array.getElem?_eq_some_iff.1 hh).1
            · simp at c3
          have ha : a = ⟨a.block, a.off, none⟩ := by
            cases a
            simp [Addr.add] at hspot
            simp [hspot]
          refine ⟨a.block, a.off, by rw [← ha], hlt, fun i vs hvs j hj => ?_⟩
          rw [List.getElem?_map] at hvs
          cases hq : L[i]? with
          | none => rw [hq] at hvs; simp at hvs
          | some y =>
            rw [hq] at hvs
            obtain rfl := Option.some.inj hvs
            obtain ⟨d1, d2⟩ := hcell i y hq
            have hj' : j < y.1.length := hj
            rw [← d2 j (by omega), ha, addr_add, addr_add]
        · rw [List.getElem?_map] at hq
          cases hy : L[i]? with
          | none => rw [hy] at hq; simp at hq
          | some y =>
            rw [hy] at hq
            obtain rfl := Option.some.inj hq
            exact (hLx i y hy).2.2.1
        · rw [List.getElem?_map] at hvs
          cases hy : L[i]? with
          | none => rw [hy] at hvs; simp at hvs
          | some y =>
            rw [hy] at hvs
            obtain rfl := Option.some.inj hvs
            exact (hcell i y hy).1
        · rw [List.getElem?_map] at hq hvs
          cases hy : L[i]? with
          | none => rw [hy] at hq; simp at hq
          | some y =>
            rw [hy] at hq hvs
            obtain rfl := Option.some.inj hq
            obtain rfl := Option.some.inj hvs
            exact (hLx i y hy).2.1.2 j p u hp hv
      · obtain ⟨y, hy, rfl⟩ := List.mem_map.1 hq
        obtain ⟨i, hi⟩ := List.mem_iff_getElem?.1 hy
        exact (hLx i y hi).2.2.2
  · rename_i fs hu
    simp only [Bool.and_eq_true] at hk
    obtain ⟨htl, hin⟩ := hk
    obtain ⟨xs, n, rfl, _, h1, h2, h3⟩ := DataW.trod_struct hu h
    obtain ⟨ps, hp1, hp2, hp3⟩ := tile_rep (P := P) (w := w) (ro := fun b => b < w.heap.size) (cs := cs) h1 fs.toList 0 (Nat.zero_le _) htl fun f hf => by
      obtain ⟨i, hi⟩ := List.mem_iff_getElem?.1 hf
      have hi' : fs[i]? = some f := by simpa using hi
      have hlt := (Array.getElem?_eq_some_iff.1 hi').1
      have h4 := h3 i f hi'
      rw [List.getElem?_eq_getElem (show i < xs.length by omega)] at h4
      have hm : f.type ∈ l := by simpa using List.all_eq_true.1 hin f hf
      obtain ⟨q, h5, h6, h7⟩ := ih n (by omega) f.type _ _ hm h4
      exact ⟨q, h5, h6, h7⟩
    refine ⟨ps, by simpa using hp1, by rw [hp2]; simp, .struct hu (by rw [hp2]; simp) fun i f hf => ?_⟩
    simpa using (hp3 i f (by simpa using hf)).2
  · simp at hk
def TyAV (P : Program) (t : TypeId) (x : AV) : Prop := ∃ ps, TyPV P t ps ∧ (((∃ fs, P.underlying t = some (.struct fs)) ∧ x = .agg (ps.map .c)) ∨ ((∀ fs, P.underlying t ≠ some (.struct fs)) ∧ ∃ q, ps = [q] ∧ x = .c q))
theorem prepL_rep {W : World} {ro : Nat → Prop} {φ : Nat → Value} {h : Nat → Option Blkd} {ps : List PV} {cs : List Value} (hp : PRepL W ro ps cs) : Rep W ro φ h (.agg (ps.map .c)) (.agg cs.toArray) := by
  refine .agg (by simp [hp.1]) fun j x v h1 h2 => ?_
  rw [List.getElem?_map] at h1
  cases hq : ps[j]? with
  | none => rw [hq] at h1; simp at h1
  | some p =>
    rw [hq] at h1
    obtain rfl := Option.some.inj h1
    exact .c (hp.2 j p v hq h2)
theorem prepL_one {W : World} {ro : Nat → Prop} {φ : Nat → Value} {h : Nat → Option Blkd} {ps : List PV} {v : Value} (hp : PRepL W ro ps [v]) : ∃ q, ps = [q] ∧ Rep W ro φ h (.c q) v := by
  have := hp.1
  match ps, this with
  | [q], _ => exact ⟨q, rfl, .c (hp.2 0 q v rfl rfl)⟩
theorem open_arg {l : List TypeId} (hl : plainB P l = true) {t : TypeId} (ht : t ∈ l) {r : Reach} {base : Nat} {v : Value} {d : DataW H} {p : List MemPlace} (hval : Value.okWide P w r base t v) (h : DataW.Trod enc P w 0 sp held t v d p) :
    ∃ x, TyAV P t x ∧ Rep w (fun b => b < w.heap.size) φ0 h0 x v := by
  obtain ⟨fuel, hf⟩ := h
  obtain ⟨ps, h1, _, h3⟩ := open_pv hl fuel t _ _ ht hf
  have hk := List.all_eq_true.1 hl t ht
  have key : (∀ fs, P.underlying t ≠ some (.struct fs)) → v.cells.toList = [v] → ∃ x, TyAV P t x ∧ Rep w (fun b => b < w.heap.size) φ0 h0 x v := by
    intro hn hc
    rw [hc] at h1
    obtain ⟨q, rfl, hr⟩ := prepL_one (φ := φ0) (h := h0) h1
    exact ⟨_, ⟨_, h3, .inr ⟨hn, q, rfl, rfl⟩⟩, hr⟩
  split at hk
  · rename_i hu
    obtain ⟨b, rfl⟩ := okWide_bool hu hval
    exact key (by simp [hu]) rfl
  · rename_i k hu
    obtain ⟨n, rfl⟩ := okWide_int hu hval
    exact key (by simp [hu]) rfl
  · rename_i hu
    obtain ⟨s, rfl⟩ := okWide_string hu hval
    exact key (by simp [hu]) rfl
  · rename_i e hu
    obtain ⟨a, len, cap, rfl⟩ := okWide_slice hu hval
    exact key (by simp [hu]) rfl
  · rename_i fs hu
    obtain ⟨cs, rfl, _⟩ := okWide_struct hu hval
    exact ⟨_, ⟨_, h3, .inl ⟨⟨fs, hu⟩, rfl⟩⟩, by simpa [Value.cells] using prepL_rep h1⟩
  · simp at hk
theorem reps_nil {W : World} {ro : Nat → Prop} {φ : Nat → Value} {h : Nat → Option Blkd} : ∀ (j : Nat) (x : AV) (v : Value), ([] : List AV)[j]? = some x → ([] : List Value)[j]? = some v → Rep W ro φ h x v := fun j x v h1 => by simp at h1
theorem reps_cons {W : World} {ro : Nat → Prop} {φ : Nat → Value} {h : Nat → Option Blkd} {y : AV} {u : Value} {l : List AV} {vs : List Value} (hy : Rep W ro φ h y u) (hs : ∀ (j : Nat) (x : AV) (v : Value), l[j]? = some x → vs[j]? = some v → Rep W ro φ h x v) :
    ∀ (j : Nat) (x : AV) (v : Value), (y :: l)[j]? = some x → (u :: vs)[j]? = some v → Rep W ro φ h x v := fun j x v h1 h2 => by
  cases j with
  | zero => simp at h1 h2; subst h1 h2; exact hy
  | succ j => exact hs j x v (by simpa using h1) (by simpa using h2)
end
end
end
end Go.Proofs.YtllnlmchjljhlaaGreatDoor
