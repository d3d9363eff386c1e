/- Texts that lead to the law DecodeMore, joined. -/
import Derived.Test.YtllnlmchjljhlaaGreatDoorPkDecodeMoreF
import Derived.Test.YtllnlmchjljhlaaGreatDoorPkDecodeMoreD
import Derived.Test.YtllnlmchjljhlaaGreatDoorRows
import Derived.Test.YtllnlmchjljhlaaGreatDoorPkDecodeMoreB
import Derived.MakeChecks
import Derived.LaidMore
import Derived.OpenShut
namespace Go.Proofs.YtllnlmchjljhlaaGreatDoor
set_option maxRecDepth 100000
set_option maxHeartbeats 6400000
open Go.RowKit
set_option linter.unusedVariables false
set_option linter.unusedSimpArgs false
section
attribute [local go_sem] opx opE ev okx gcond bnd okO AV.get AV.okb cAV upd_at putd_some putd_none wrs_nil wrs_cons look_nil look_cons st argT_at bpick_and bpick_or bpick_true bpick_false binV binI binS binVOk binOk isShift binSOk unV unVOk loadV loadP cellsA zeroA Blkd.len setE grown moreA moreR moreOk eqRes pv fillA fillE putSeg AV.cellish AV.pureL AV.pureB lentL_is ex_some AV.ren AV.renL renL_c Blkd.ren rho wrM renN lentOk rhoE keepM endOk tyA_2 tyA_3 tyA_4 tyA_5 tyA_6 tyA_7 tyA_8 tyA_9 tyA_10 tyA_11 tyA_12 tyA_13 tyA_14 tyA_15 tyA_16 tyA_17 tyA_18 tyA_19 tyA_21 tyA_22 tyA_23 tyA_24 tyA_29 tyA_30 tyA_31 tyA_32 tyA_33 tyA_34 tyA_35 tyA_36 tyA_37 tyA_38 tyA_39 tyA_40 tyA_41 tyA_42 tyA_43 tyA_49 tyA_85 tyA_89 tyA_99 tyA_100 tyA_101 tyA_105 tyA_106 tyA_107 tyA_108 tyA_109 tyA_111 tyA_112 tyA_113 tyA_114 tyA_123 tyA_126 tyA_127 tyA_128 tyA_129 tyA_130 tyA_153 tyA_163 tyA_164 tyA_165 tyA_179 tyA_185 tyA_191 tyA_192 tyA_193 tyA_194 tyA_195 tyA_196 tyA_209 tyA_213 tyA_214 tyA_215 tyA_241 tyA_248 tyA_274 tyA_275 tyA_276 tyA_292 tyA_294 tyA_302 tyA_307 tyA_315 tyA_319 tyA_321 tyA_324 tyA_325 tyA_326 tyA_327 tyA_328 tyA_329 tyA_330 tyA_332 tyA_333 Option.map_some Option.map_none Option.getD_some Option.getD_none Option.bind_some Option.bind_none List.getElem?_cons_zero List.getElem?_cons_succ List.getElem?_nil List.getElem?_toArray List.length_cons List.length_nil List.length_map List.forall_mem_map List.map_cons List.map_nil List.drop_zero List.drop_succ_cons List.drop_nil List.take_zero List.take_succ_cons List.take_nil List.mem_cons List.not_mem_nil or_false forall_eq_or_imp forall_eq List.set_cons_zero List.set_cons_succ List.cons_append List.nil_append List.append_nil List.foldl_cons List.foldl_nil List.replicate_succ List.replicate_zero List.all_cons List.all_nil if_true if_false Bool.false_eq_true ne_eq not_false_eq_true not_true_eq_false true_and and_true and_self true_implies imp_self implies_true forall_const beq_self_eq_true Bool.and_true Bool.true_and Bool.and_false Bool.false_and Bool.or_true Bool.true_or Bool.or_false Bool.false_or Bool.not_true Bool.not_false Bool.not_eq_eq_eq_not intKindOf Value.oneCell' Int.toNat_natCast beq_true beq_false Bool.not_eq_true false_implies false_or true_or or_true Nat.zero_add Nat.add_zero decide_true decide_false Int.cast_ofNat_Int Int.toNat_zero Int.toNat_one eq_self

theorem rleaf_any (s : ST) (B : List UInt8) (hB : B.length ≤ 1000000) (a : Nat) (nd : NT) (hnd : s.nodes[a]? = some nd) (hN : nodeM s.nodes nd = true) (hk : nd.kind < 9 ∨ nd.kind = 10 ∨ nd.kind = 14) (dep : Nat) (p : Nat) (hp : p ≤ B.length) (e : Int) : LeafR s (a : Int) dep B p e := by
 by_cases he : e = 0
 rotate_left
 · exact rleafe_told s B a nd hnd hk dep p hp e he
 subst he
 unfold nodeM at hN
 simp only [Bool.and_eq_true, decide_eq_true_eq] at hN
 obtain ⟨⟨k1, k2, _⟩, _, hS⟩ := hN
 by_cases h2 : nd.kind = 2
 · exact rleaf2_told s B hB a nd hnd h2 dep p hp
 by_cases h3 : nd.kind = 3
 · exact rleaf3_told s B hB a nd hnd h3 dep p hp
 by_cases h4 : nd.kind = 4
 · exact rleaf4_told s B hB a nd hnd h4 dep p hp
 by_cases h5 : nd.kind = 5
 · exact rleaf5_told s B hB a nd hnd h5 dep p hp
 by_cases h6 : nd.kind = 6
 · exact rleaf6_told s B hB a nd hnd h6 dep p hp
 by_cases h7 : nd.kind = 7
 · exact rleaf7_told s B hB a nd hnd h7 dep p hp
 by_cases h8 : nd.kind = 8
 · exact rleaf8_told s B hB a nd hnd h8 dep p hp
 by_cases h14 : nd.kind = 14
 · rw [h14, if_neg (by decide), if_neg (by decide), if_pos rfl] at hS
   simp only [Bool.and_eq_true, decide_eq_true_eq] at hS
   exact rleaf14_told s B hB a nd hnd h14 ⟨by omega, by omega⟩ dep p hp
 by_cases h10 : nd.kind = 10
 · exact rleaf10_told s B hB a nd hnd h10 dep p hp
 · exact rleaf1_told s B hB a nd hnd (by omega) dep p hp
theorem rleft_told (s : ST) (hr : rightM s = true) (B : List UInt8) (hB : B.length ≤ 1000000) : ∀ (d : Nat), d ≤ 20 → ∀ a : Int, 0 ≤ a → a < (s.nodes.length : Int) → ∀ L p e, 0 ≤ L → L ≤ 200000 → p ≤ B.length → LfE s B a (20 - d) L p e := by
 obtain ⟨txt, htx⟩ : ∃ txt : Nat → Nat × Int, ∀ p, p ≤ B.length → Adv B p 0 (txt p).1 (txt p).2 ∧ ∃ l : List UInt8, ToldM Tryz.prog 195 [.ref 1000000 1 0 0] [rB B p 0] [some (rB B (txt p).1 (txt p).2)] (.c (.sl 1 (bytePV l))) := by
  have key : ∀ p : Nat, ∃ t : Nat × Int, p ≤ B.length → Adv B p 0 t.1 t.2 ∧ ∃ l : List UInt8, ToldM Tryz.prog 195 [.ref 1000000 1 0 0] [rB B p 0] [some (rB B t.1 t.2)] (.c (.sl 1 (bytePV l))) := by
   intro p
   by_cases h : p ≤ B.length
   · obtain ⟨l, q, e', h1, h2⟩ := r4text_told B hB p h 0
     exact ⟨(q, e'), fun _ => ⟨h1, l, h2⟩⟩
   · exact ⟨(0, 0), fun h' => absurd h' h⟩
  exact ⟨fun p => Classical.choose (key p), fun p hp => Classical.choose_spec (key p) hp⟩
 obtain ⟨cnt, hcnt⟩ : ∃ cnt : Nat → Nat → Int → Nat × Nat × Int, ∀ (h p : Nat) (e : Int), h ≤ 300 → p ≤ B.length → (p ≤ (cnt h p e).2.1 ∧ (cnt h p e).2.1 ≤ B.length ∧ (cnt h p e).1 + h ≤ 300 ∧ ((cnt h p e).2.2 ≠ 0 → (cnt h p e).1 = 0)) ∧
   ToldM Tryz.prog 194 [.ref 1000000 1 0 0, .c (.v (.int .i64 (h : Int)))] [rB B p e] [some (rB B (cnt h p e).2.1 (cnt h p e).2.2)] (.c (.v (.int .i64 ((cnt h p e).1 : Int)))) := by
  have key : ∀ (h p : Nat) (e : Int), ∃ t : Nat × Nat × Int, h ≤ 300 → p ≤ B.length → (p ≤ t.2.1 ∧ t.2.1 ≤ B.length ∧ t.1 + h ≤ 300 ∧ (t.2.2 ≠ 0 → t.1 = 0)) ∧
    ToldM Tryz.prog 194 [.ref 1000000 1 0 0, .c (.v (.int .i64 (h : Int)))] [rB B p e] [some (rB B t.2.1 t.2.2)] (.c (.v (.int .i64 (t.1 : Int)))) := by
   intro h p e
   by_cases hh : h ≤ 300 ∧ p ≤ B.length
   · obtain ⟨m, q, e', h1, h2, h3, h4⟩ := rcount_told B hB p hh.2 e h hh.1
     exact ⟨(m, q, e'), fun _ _ => ⟨⟨h1.up, h1.le, h2, h3⟩, h4⟩⟩
   · exact ⟨(0, 0, 0), fun h1 h2 => absurd ⟨h1, h2⟩ hh⟩
  exact ⟨fun h p e => Classical.choose (key h p e), fun h p e h1 h2 => Classical.choose_spec (key h p e) h1 h2⟩
 intro d
 induction d with
 | zero =>
   intro _ a ha ha' L p e h0 h1 hp
   obtain ⟨m, rfl⟩ : ∃ m : Nat, a = (m : Int) := ⟨a.toNat, by omega⟩
   obtain ⟨nd, hnd⟩ : ∃ nd, s.nodes[m]? = some nd := ⟨_, List.getElem?_eq_getElem (show m < s.nodes.length by omega)⟩
   have hN := right_nodes hr nd (List.mem_of_getElem? hnd)
   have hkk : (nd.kind < 9 ∨ nd.kind = 10 ∨ nd.kind = 14) ∨ (nd.kind = 9 ∨ nd.kind = 11 ∨ nd.kind = 12 ∨ nd.kind = 13) := by
    unfold nodeM at hN
    simp only [Bool.and_eq_true, decide_eq_true_eq] at hN
    omega
   rcases hkk with hk | hk
   · exact rleftl_told s B m nd hnd hk _ L h0 h1 p e (rleaf_any s B hB m nd hnd hN hk _ p hp e)
   · exact rleft0_told s B m nd hnd hk _ L h0 h1 p hp e (.inl rfl)
 | succ d ih =>
   intro hd a ha ha' L p e h0 h1 hp
   obtain ⟨m, rfl⟩ : ∃ m : Nat, a = (m : Int) := ⟨a.toNat, by omega⟩
   obtain ⟨nd, hnd⟩ : ∃ nd, s.nodes[m]? = some nd := ⟨_, List.getElem?_eq_getElem (show m < s.nodes.length by omega)⟩
   have hmem := List.mem_of_getElem? hnd
   have hN := right_nodes hr nd hmem
   have hkk : (nd.kind < 9 ∨ nd.kind = 10 ∨ nd.kind = 14) ∨ (nd.kind = 9 ∨ nd.kind = 11 ∨ nd.kind = 12 ∨ nd.kind = 13) := by
    unfold nodeM at hN
    simp only [Bool.and_eq_true, decide_eq_true_eq] at hN
    omega
   rcases hkk with hk | hk
   · exact rleftl_told s B m nd hnd hk _ L h0 h1 p e (rleaf_any s B hB m nd hnd hN hk _ p hp e)
   by_cases hstop : e ≠ 0 ∨ L = 0
   · exact rleft0_told s B m nd hnd hk _ L h0 h1 p hp e (.inr ⟨by omega, hstop⟩)
   have he : e = 0 := Decidable.not_not.1 fun h => hstop (.inl h)
   subst he
   have hL1 : 1 ≤ L := by
    have : L ≠ 0 := fun h => hstop (.inr h)
    omega
   have hkid := ordered_kids (right_ordered hr) nd hmem
   obtain ⟨lf, hlf⟩ := lf_of (ih (by omega))
   have hdep : 20 - (d + 1) < 20 := by omega
   have hdep1 : 20 - d = 20 - (d + 1) + 1 := by omega
   rw [hdep1] at hlf
   unfold nodeM at hN
   simp only [Bool.and_eq_true, decide_eq_true_eq] at hN
   have hS := hN.2.2
   by_cases h9 : nd.kind = 9
   · rw [if_pos h9] at hS
     unfold fieldsM at hS
     simp only [Bool.and_eq_true, decide_eq_true_eq] at hS
     have hkf : ∀ t ∈ nd.fields, 0 ≤ t.type ∧ t.type < (s.nodes.length : Int) := fun t ht => hkid t.type (by unfold kidsN; rw [if_pos h9]; exact List.mem_map_of_mem ht)
     exact rleft9_told s B m nd hnd h9 _ hdep lf (by omega) (fun t ht => hlf t.type (hkf t ht).1 (hkf t ht).2) L hL1 h1 p hp
   by_cases h13 : nd.kind = 13
   · have hbk : ∀ b ∈ nd.branches, 0 ≤ b ∧ b < (s.nodes.length : Int) := fun b hb => hkid b (by unfold kidsN; rw [if_neg h9, if_neg (by omega), if_pos h13]; exact hb)
     rw [h13, if_neg (by decide), if_neg (by decide), if_neg (by decide), if_pos rfl] at hS
     unfold unionM at hS
     simp only [Bool.and_eq_true, decide_eq_true_eq] at hS
     exact rleft13_told s B hB m nd hnd h13 _ hdep lf (by omega) (fun b hb => hlf b (hbk b hb).1 (hbk b hb).2) L hL1 h1 p hp
   · have hk2 : nd.kind = 11 ∨ nd.kind = 12 := by omega
     have hb := hkid nd.items (by unfold kidsN; rw [if_neg h9, if_pos hk2]; simp)
     exact rleft11_told s B hB m nd hnd hk2 _ hdep (lf nd.items) (hlf _ hb.1 hb.2) txt htx cnt (fun h p e h1 h2 => (hcnt h p e h1 h2).1) (fun h p e h1 h2 => (hcnt h p e h1 h2).2) L hL1 h1 p hp
theorem rmuch_told (s : ST) (hs : s.sm 1000000) (hdp : ∀ n ∈ s.nodes, ∀ f ∈ n.fields, tdeep f.dflt ≤ 1000) (a : Int) (B : List UInt8) (hB : B.length ≤ 1000000) (p : Int) : ∃ b : Bool, Told Tryz.prog 70 [s.av, .c (.v (.int .i64 a)), .c (.sl 1 (bytePV B)), .c (.v (.int .i64 p))] (.c (.v (.bool b))) := by
 have hR := rRight_told s hs hdp
 have hbl := bytePV_l B
 rw [ST.av_eq] at hR ⊢
 rw [scells_mk] at hR ⊢
 cases hr : rightM s with
 | false =>
   rw [hr] at hR
   refine ⟨false, ?_⟩
   refine VC.toldP ent_70 Tryz.func70 rfl Tryz.ntmps70 fun hb => ?_
   clear hb
   refine walkGF (@scells_mk) ?_
   refine walkCF (@pureL_c) (hR) ?_
   refine walkB ?_
   refine ⟨by first | exact .inr rfl | exact .inl rfl, ?_⟩; rw [Tryz.results70]; simp only [resOk, resV, go_sem, simprocAttr]
   exact .c _
 | true =>
 rw [hr] at hR
 by_cases h1 : a < 0
 · have e1 : decide (a < 0) = true := by simpa using h1
   refine ⟨false, ?_⟩
   refine VC.toldP ent_70 Tryz.func70 rfl Tryz.ntmps70 fun hb => ?_
   clear hb
   refine walkGF (@scells_mk) ?_
   refine walkCF (@pureL_c) (hR) ?_
   refine walkBF (e1) ?_
   refine ⟨by first | exact .inr rfl | exact .inl rfl, ?_⟩; rw [Tryz.results70]; simp only [resOk, resV, go_sem, simprocAttr]
   exact .c _
 have e1 : decide (a < 0) = false := by simpa using h1
 by_cases h2 : (s.nodes.length : Int) ≤ a
 · have e2 : decide (a ≥ (s.nodes.length : Int)) = true := by simpa using h2
   refine ⟨false, ?_⟩
   refine VC.toldP ent_70 Tryz.func70 rfl Tryz.ntmps70 fun hb => ?_
   clear hb
   refine walkGF (@scells_mk) ?_
   refine walkCF (@pureL_c) (hR) ?_
   refine walkBF (And.intro e1 e2) ?_
   refine ⟨by first | exact .inr rfl | exact .inl rfl, ?_⟩; rw [Tryz.results70]; simp only [resOk, resV, go_sem, simprocAttr]
   exact .c _
 have e2 : decide (a ≥ (s.nodes.length : Int)) = false := by simpa using h2
 by_cases h3 : p < 0
 · have e3 : decide (p < 0) = true := by simpa using h3
   refine ⟨false, ?_⟩
   refine VC.toldP ent_70 Tryz.func70 rfl Tryz.ntmps70 fun hb => ?_
   clear hb
   refine walkGF (@scells_mk) ?_
   refine walkCF (@pureL_c) (hR) ?_
   refine walkBF (And.intro e1 (And.intro e2 e3)) ?_
   refine ⟨by first | exact .inr rfl | exact .inl rfl, ?_⟩; rw [Tryz.results70]; simp only [resOk, resV, go_sem, simprocAttr]
   exact .c _
 have e3 : decide (p < 0) = false := by simpa using h3
 by_cases h4 : (B.length : Int) < p
 · have e4 : decide (p > (B.length : Int)) = true := by simpa using h4
   refine ⟨false, ?_⟩
   refine VC.toldP ent_70 Tryz.func70 rfl Tryz.ntmps70 fun hb => ?_
   clear hb
   refine walkGF (@scells_mk) ?_
   refine walkCF (@pureL_c) (hR) ?_
   refine walkBF (And.intro e1 (And.intro e2 (And.intro e3 (And.intro e4 hbl)))) ?_
   refine ⟨by first | exact .inr rfl | exact .inl rfl, ?_⟩; rw [Tryz.results70]; simp only [resOk, resV, go_sem, simprocAttr]
   exact .c _
 have e4 : decide (p > (B.length : Int)) = false := by simpa using h4
 obtain ⟨m, rfl⟩ : ∃ m : Nat, p = (m : Int) := ⟨p.toNat, by omega⟩
 obtain ⟨L, q, e', _, _, _, hT⟩ := rleft_told s hr B hB 20 (Nat.le_refl _) a (by omega) (by omega) 200000 m 0 (by decide) (by decide) (by omega)
 rw [show ((20 - 20 : Nat) : Int) = 0 from rfl, ST.av_eq, scells_mk] at hT
 unfold rB at hT
 refine ⟨decide (L < 0), ?_⟩
 refine VC.toldP ent_70 Tryz.func70 rfl Tryz.ntmps70 fun hb => ?_
 clear hb
 refine walkGF (@scells_mk) ?_
 refine walkCF (@pureL_c) (hR) ?_
 refine walkBF (And.intro e1 (And.intro e2 (And.intro e3 (And.intro e4 (And.intro hbl @scells_mk))))) ?_
 refine walkL [248] (hT) ?_
 refine walkB ?_
 refine ⟨by first | exact .inr rfl | exact .inl rfl, ?_⟩; rw [Tryz.results70]; simp only [resOk, resV, go_sem, simprocAttr]
 exact .c _
theorem much_told (s : ST) (hs : s.sm 1000000) (hdp : ∀ n ∈ s.nodes, ∀ f ∈ n.fields, tdeep f.dflt ≤ 1000) (a : Int) (B : List UInt8) (hB : B.length ≤ 1000000) (p : Int) : ∃ b : Bool, Told Tryz.prog 32 [s.av, .c (.v (.int .i64 a)), .c (.sl 1 (bytePV B)), .c (.v (.int .i64 p))] (.c (.v (.bool b))) := by
 obtain ⟨b, hM⟩ := rmuch_told s hs hdp a B hB p
 refine ⟨b, ?_⟩
 rw [ST.av_eq] at hM ⊢
 refine VC.toldP ent_32 Tryz.func32 rfl Tryz.ntmps32 fun hb => ?_
 clear hb
 refine walkGF (And.intro @len_scells (And.intro @take_scells @take_scellsC)) ?_
 refine walkCF (@pureL_c) (hM) ?_
 refine walkG ?_
 refine ⟨by first | exact .inr rfl | exact .inl rfl, ?_⟩; rw [Tryz.results32]; simp only [resOk, resV, go_sem, simprocAttr]
 exact .c _
section

section
variable {P : Program} {ops : Array Oper} {o : Oper} {t : Nat → AV} {h : Nat → Option Blkd}
theorem AO.stepJg {l : List Oper} {n : Nat} {fs : Foot} {R : (Nat → AV) → (Nat → Option Blkd) → Foot → Prop} {v : AV} {rd : List Nat} {wr : List (Nat × Option Blkd)} {g d : Nat} {w : Bool} (hgd : o.guard = some (g, w)) (hd : (ops[g]?).bind (·.dst) = some d) (hb : gcond (t d) w = some true) (hJ : J P o n t h ⟨v, rd, wr⟩) (H : AO P ops l (n + 8) (putd o.dst v t) (wrs wr h) (fs ++ [(rd, wr.map (·.1))]) R) : AO P ops (o :: l) n t h fs R :=
 ⟨_, JG.guarded hgd hd hb hJ, H.out⟩
end
theorem take_more {s : ST} {a : Int} {b t : List UInt8} (h : (takeM s a b 0).2.2 ≠ 10) : takeM s a (b ++ t) 0 = takeM s a b 0 := by
 by_cases hc : a < 0 ∨ (s.nodes.length : Int) ≤ a ∨ rightM s = false
 · have h1 : ∀ B : List UInt8, takeM s a B 0 = (v0, 0, 2) := fun B => takeM_no (hc.elim .inl fun h => h.elim (fun h => .inr (.inl h)) fun h => .inr (.inr (.inr (.inr h))))
   rw [h1, h1]
 · have h1 : ∀ B : List UInt8, takeM s a B 0 = match decM s.nodes 20 a B 0 with
     | .error e => (v0, 0, e)
     | .ok (v, q) => (v, (q : Int), 0) := fun B => takeM_go (B := B) (p := 0) (by
       rintro (h | h | h | h | h)
       · exact hc (.inl h)
       · exact hc (.inr (.inl h))
       · omega
       · omega
       · exact hc (.inr (.inr h)))
   rw [h1] at h ⊢
   rw [h1, (fair_dec s.nodes 20 a).more t (Nat.zero_le _) (fun h2 => h (by rw [h2]))]
theorem dmore_told (s : ST) (a : Int) (b t : List UInt8) :
  Told Tryz.prog 7 [s.av, .c (.v (.int .i64 a)), .c (.sl 1 (bytePV b)), .c (.sl 1 (bytePV t))] (.c (.v (.bool true))) := by
 have hS := sgreat_told s
 have hbb := bytePV_l b
 have hbt := bytePV_l t
 rw [ST.av_eq] at hS ⊢
 by_cases hs : 2500 < sbulk s
 · have e1 : decide (2500 < (sbulk s : Int)) = true := by simp; omega
   rw [e1] at hS
   refine VC.toldP ent_7 Tryz.func7 rfl Tryz.ntmps7 fun hb => ?_
   clear hb
   refine walkG ?_
   refine walkC (works19_told) ?_
   refine walkBF (And.intro @len_scells (And.intro @take_scells @take_scellsC)) ?_
   refine walkCF (@pureL_c) (hS) ?_
   refine walkB ?_
   refine ⟨by first | exact .inr rfl | exact .inl rfl, ?_⟩; rw [Tryz.results7]; simp only [resOk, resV, go_sem, simprocAttr]
   exact .c _
 have e1 : decide (2500 < (sbulk s : Int)) = false := by simp; omega
 rw [e1] at hS
 by_cases hb1 : 700 < b.length
 · have e2 : decide ((b.length : Int) > 700) = true := by simp; omega
   refine VC.toldP ent_7 Tryz.func7 rfl Tryz.ntmps7 fun hb => ?_
   clear hb
   refine walkG ?_
   refine walkC (works19_told) ?_
   refine walkBF (And.intro @len_scells (And.intro @take_scells @take_scellsC)) ?_
   refine walkCF (@pureL_c) (hS) ?_
   refine walkBF (And.intro hbb (And.intro hbt e2)) ?_
   refine ⟨by first | exact .inr rfl | exact .inl rfl, ?_⟩; rw [Tryz.results7]; simp only [resOk, resV, go_sem, simprocAttr]
   exact .c _
 have e2 : decide ((b.length : Int) > 700) = false := by simp; omega
 by_cases ht1 : 700 < t.length
 · have e3 : decide ((t.length : Int) > 700) = true := by simp; omega
   refine VC.toldP ent_7 Tryz.func7 rfl Tryz.ntmps7 fun hb => ?_
   clear hb
   refine walkG ?_
   refine walkC (works19_told) ?_
   refine walkBF (And.intro @len_scells (And.intro @take_scells @take_scellsC)) ?_
   refine walkCF (@pureL_c) (hS) ?_
   refine walkBF (And.intro hbb (And.intro hbt (And.intro e2 e3))) ?_
   refine ⟨by first | exact .inr rfl | exact .inl rfl, ?_⟩; rw [Tryz.results7]; simp only [resOk, resV, go_sem, simprocAttr]
   exact .c _
 have e3 : decide ((t.length : Int) > 700) = false := by simp; omega
 have hsm := ssm_le' (sbulk_sm (s := s) (by omega))
 have hdp := sbulk_deep (s := s) (by omega)
 obtain ⟨m1, hM1⟩ := much_told s hsm hdp a b (by omega) 0
 rw [ST.av_eq] at hM1
 cases m1 with
 | true =>
   refine VC.toldP ent_7 Tryz.func7 rfl Tryz.ntmps7 fun hb => ?_
   clear hb
   refine walkG ?_
   refine walkC (works19_told) ?_
   refine walkBF (And.intro @len_scells (And.intro @take_scells @take_scellsC)) ?_
   refine walkCF (@pureL_c) (hS) ?_
   refine walkBF (And.intro hbb (And.intro hbt (And.intro e2 (And.intro e3 (And.intro @len_scells (And.intro @take_scells @take_scellsC)))))) ?_
   refine walkCF (@pureL_c) (hM1) ?_
   refine walkB ?_
   refine ⟨by first | exact .inr rfl | exact .inl rfl, ?_⟩; rw [Tryz.results7]; simp only [resOk, resV, go_sem, simprocAttr]
   exact .c _
 | false =>
 obtain ⟨m2, hM2⟩ := much_told s hsm hdp a (b ++ t) (by simp only [List.length_append]; omega) 0
 rw [ST.av_eq] at hM2
 have hall : (bytePV b).map (fun e => e.map AV.c) ++ (bytePV t).map (fun e => e.map AV.c) = (bytePV (b ++ t)).map fun e => e.map AV.c := by simp [bytePV]
 cases m2 with
 | true =>
   refine VC.toldP ent_7 Tryz.func7 rfl Tryz.ntmps7 fun hb => ?_
   clear hb
   refine walkG ?_
   refine walkC (works19_told) ?_
   refine walkBF (And.intro @len_scells (And.intro @take_scells @take_scellsC)) ?_
   refine walkCF (@pureL_c) (hS) ?_
   refine walkBF (And.intro hbb (And.intro hbt (And.intro e2 (And.intro e3 (And.intro @len_scells (And.intro @take_scells @take_scellsC)))))) ?_
   refine walkCF (@pureL_c) (hM1) ?_
   (repeat (first | refine pass ?_ | refine VC.region (by rfl) (by rfl) ?_ | (refine AO.step fun K hK => ?_; simp only [hbb, hbt, List.length_append, List.length_map, len_scells, take_scells, take_scellsC, go_sem, Int.reduceBEq, Int.reduceLE, Int.reduceLT, Int.reduceNeg, Nat.reduceAdd, Nat.reduceEqDiff, Nat.reduceLT, Nat.reduceLeDiff, Nat.reduceMul, Nat.reduceSub, reduceCtorEq, ↓reduceIte]; (first | refine gsel_skip ?_ | refine gsel_go ?_ | skip); (first | refine hK _ _ _ ?_ | refine ⟨by first | omega | exact ⟨_, rfl, rfl⟩ | exact fun _ => ⟨_, rfl, rfl⟩ | (intro h; simp only [hbb, hbt, List.length_append, List.length_map, len_scells, take_scells, take_scellsC, h, true_and]; omega) | (clear hK; intro h; simp_all <;> omega), hK _ _ _ ?_⟩); clear hK K) | refine VC.draw mixP (by rfl) (by rfl) ?_ | refine ⟨okd_of (by kernel_rfl), ?_⟩ | refine BQ.other (by decide) ?_ | refine VC.seq ?_ | refine AO.nil ?_ | refine VC.block ?_ | refine VC.condT (by rfl) (by trivial) ?_ | refine VC.condF (by rfl) (by trivial) ?_))
   refine AO.stepJg rfl rfl rfl (J_callZ _ _ _ _ 200 (b.length + t.length) _ (bytePV (b ++ t)) [.agg (s.cells.map .c), .c (.v (.int .i64 a))] [.c (.v (.int .i64 0))] rfl (by simp [okx, putd, upd, AV.okb]) rfl rfl ?_ ?_ rfl ?_ hM2) ?_
   · simp [Blkd.len, hbb, hbt]
   · exact hall
   · simp [AV.pureL, AV.pureB, pureL_c]
   refine walkB ?_
   refine ⟨by first | exact .inr rfl | exact .inl rfl, ?_⟩; rw [Tryz.results7]; simp only [resOk, resV, go_sem, simprocAttr]
   exact .c _
 | false =>
 have hT1 := dtake_told s hsm a b (by omega) 0
 have hT2 := dtake_told s hsm a (b ++ t) (by simp only [List.length_append]; omega) 0
 rw [ST.av_eq, VT.av_eq] at hT1 hT2
 by_cases h10 : (takeM s a b 0).2.2 = 10
 · have e5 : ((takeM s a b 0).2.2 == 10) = true := by simpa using h10
   refine VC.toldP ent_7 Tryz.func7 rfl Tryz.ntmps7 fun hb => ?_
   clear hb
   refine walkG ?_
   refine walkC (works19_told) ?_
   refine walkBF (And.intro @len_scells (And.intro @take_scells @take_scellsC)) ?_
   refine walkCF (@pureL_c) (hS) ?_
   refine walkBF (And.intro hbb (And.intro hbt (And.intro e2 (And.intro e3 (And.intro @len_scells (And.intro @take_scells @take_scellsC)))))) ?_
   refine walkCF (@pureL_c) (hM1) ?_
   (repeat (first | refine pass ?_ | refine VC.region (by rfl) (by rfl) ?_ | (refine AO.step fun K hK => ?_; simp only [hbb, hbt, List.length_append, List.length_map, len_scells, take_scells, take_scellsC, go_sem, Int.reduceBEq, Int.reduceLE, Int.reduceLT, Int.reduceNeg, Nat.reduceAdd, Nat.reduceEqDiff, Nat.reduceLT, Nat.reduceLeDiff, Nat.reduceMul, Nat.reduceSub, reduceCtorEq, ↓reduceIte]; (first | refine gsel_skip ?_ | refine gsel_go ?_ | skip); (first | refine hK _ _ _ ?_ | refine ⟨by first | omega | exact ⟨_, rfl, rfl⟩ | exact fun _ => ⟨_, rfl, rfl⟩ | (intro h; simp only [hbb, hbt, List.length_append, List.length_map, len_scells, take_scells, take_scellsC, h, true_and]; omega) | (clear hK; intro h; simp_all <;> omega), hK _ _ _ ?_⟩); clear hK K) | refine VC.draw mixP (by rfl) (by rfl) ?_ | refine ⟨okd_of (by kernel_rfl), ?_⟩ | refine BQ.other (by decide) ?_ | refine VC.seq ?_ | refine AO.nil ?_ | refine VC.block ?_ | refine VC.condT (by rfl) (by trivial) ?_ | refine VC.condF (by rfl) (by trivial) ?_))
   refine AO.stepJg rfl rfl rfl (J_callZ _ _ _ _ 200 (b.length + t.length) _ (bytePV (b ++ t)) [.agg (s.cells.map .c), .c (.v (.int .i64 a))] [.c (.v (.int .i64 0))] rfl (by simp [okx, putd, upd, AV.okb]) rfl rfl ?_ ?_ rfl ?_ hM2) ?_
   · simp [Blkd.len, hbb, hbt]
   · exact hall
   · simp [AV.pureL, AV.pureB, pureL_c]
   refine walkBF (And.intro @len_scells (And.intro @take_scells @take_scellsC)) ?_
   refine walkCF (@pureL_c) (hT1) ?_
   (repeat (first | refine pass ?_ | refine VC.region (by rfl) (by rfl) ?_ | (refine AO.step fun K hK => ?_; simp only [hbb, hbt, List.length_append, List.length_map, len_scells, take_scells, take_scellsC, len_vcells, take_vcells, take_vcellsC, go_sem, Int.reduceBEq, Int.reduceLE, Int.reduceLT, Int.reduceNeg, Nat.reduceAdd, Nat.reduceEqDiff, Nat.reduceLT, Nat.reduceLeDiff, Nat.reduceMul, Nat.reduceSub, reduceCtorEq, ↓reduceIte]; (first | refine gsel_skip ?_ | refine gsel_go ?_ | skip); (first | refine hK _ _ _ ?_ | refine ⟨by first | omega | exact ⟨_, rfl, rfl⟩ | exact fun _ => ⟨_, rfl, rfl⟩ | (intro h; simp only [hbb, hbt, List.length_append, List.length_map, len_scells, take_scells, take_scellsC, len_vcells, take_vcells, take_vcellsC, h, true_and]; omega) | (clear hK; intro h; simp_all <;> omega), hK _ _ _ ?_⟩); clear hK K) | refine VC.draw mixP (by rfl) (by rfl) ?_ | refine ⟨okd_of (by kernel_rfl), ?_⟩ | refine BQ.other (by decide) ?_ | refine VC.seq ?_ | refine AO.nil ?_ | refine VC.block ?_ | refine VC.condT (by rfl) (by trivial) ?_ | refine VC.condF (by rfl) (by trivial) ?_))
   refine AO.stepJw rfl (J_callZ _ _ _ _ 368 (b.length + t.length) _ (bytePV (b ++ t)) [.agg (s.cells.map .c), .c (.v (.int .i64 a))] [.c (.v (.int .i64 0))] rfl (by simp [okx, putd, upd, AV.okb]) rfl rfl ?_ ?_ rfl ?_ hT2) ?_
   · simp [Blkd.len, hbb, hbt]
   · exact hall
   · simp [AV.pureL, AV.pureB, pureL_c]
   refine walkBF (And.intro e5 (And.intro @len_vcells (And.intro @take_vcells @take_vcellsC))) ?_
   refine ⟨by first | exact .inr rfl | exact .inl rfl, ?_⟩; rw [Tryz.results7]; simp only [resOk, resV, go_sem, simprocAttr]
   exact .c _
 · have e5 : ((takeM s a b 0).2.2 == 10) = false := by simpa using h10
   rw [take_more h10] at hT2
   have hW := vsame_told _ (takeM s a b 0).1 (takeM s a b 0).1 (Nat.le_refl _)
   rw [ceq_self, VT.av_eq] at hW
   generalize takeM s a b 0 = T at *
   have e6 : (T.2.2 == T.2.2) = true := by simp
   have e7 : (T.2.1 == T.2.1) = true := by simp
   refine VC.toldP ent_7 Tryz.func7 rfl Tryz.ntmps7 fun hb => ?_
   clear hb
   refine walkG ?_
   refine walkC (works19_told) ?_
   refine walkBF (And.intro @len_scells (And.intro @take_scells @take_scellsC)) ?_
   refine walkCF (@pureL_c) (hS) ?_
   refine walkBF (And.intro hbb (And.intro hbt (And.intro e2 (And.intro e3 (And.intro @len_scells (And.intro @take_scells @take_scellsC)))))) ?_
   refine walkCF (@pureL_c) (hM1) ?_
   (repeat (first | refine pass ?_ | refine VC.region (by rfl) (by rfl) ?_ | (refine AO.step fun K hK => ?_; simp only [hbb, hbt, List.length_append, List.length_map, len_scells, take_scells, take_scellsC, go_sem, Int.reduceBEq, Int.reduceLE, Int.reduceLT, Int.reduceNeg, Nat.reduceAdd, Nat.reduceEqDiff, Nat.reduceLT, Nat.reduceLeDiff, Nat.reduceMul, Nat.reduceSub, reduceCtorEq, ↓reduceIte]; (first | refine gsel_skip ?_ | refine gsel_go ?_ | skip); (first | refine hK _ _ _ ?_ | refine ⟨by first | omega | exact ⟨_, rfl, rfl⟩ | exact fun _ => ⟨_, rfl, rfl⟩ | (intro h; simp only [hbb, hbt, List.length_append, List.length_map, len_scells, take_scells, take_scellsC, h, true_and]; omega) | (clear hK; intro h; simp_all <;> omega), hK _ _ _ ?_⟩); clear hK K) | refine VC.draw mixP (by rfl) (by rfl) ?_ | refine ⟨okd_of (by kernel_rfl), ?_⟩ | refine BQ.other (by decide) ?_ | refine VC.seq ?_ | refine AO.nil ?_ | refine VC.block ?_ | refine VC.condT (by rfl) (by trivial) ?_ | refine VC.condF (by rfl) (by trivial) ?_))
   refine AO.stepJg rfl rfl rfl (J_callZ _ _ _ _ 200 (b.length + t.length) _ (bytePV (b ++ t)) [.agg (s.cells.map .c), .c (.v (.int .i64 a))] [.c (.v (.int .i64 0))] rfl (by simp [okx, putd, upd, AV.okb]) rfl rfl ?_ ?_ rfl ?_ hM2) ?_
   · simp [Blkd.len, hbb, hbt]
   · exact hall
   · simp [AV.pureL, AV.pureB, pureL_c]
   refine walkBF (And.intro @len_scells (And.intro @take_scells @take_scellsC)) ?_
   refine walkCF (@pureL_c) (hT1) ?_
   (repeat (first | refine pass ?_ | refine VC.region (by rfl) (by rfl) ?_ | (refine AO.step fun K hK => ?_; simp only [hbb, hbt, List.length_append, List.length_map, len_scells, take_scells, take_scellsC, len_vcells, take_vcells, take_vcellsC, go_sem, Int.reduceBEq, Int.reduceLE, Int.reduceLT, Int.reduceNeg, Nat.reduceAdd, Nat.reduceEqDiff, Nat.reduceLT, Nat.reduceLeDiff, Nat.reduceMul, Nat.reduceSub, reduceCtorEq, ↓reduceIte]; (first | refine gsel_skip ?_ | refine gsel_go ?_ | skip); (first | refine hK _ _ _ ?_ | refine ⟨by first | omega | exact ⟨_, rfl, rfl⟩ | exact fun _ => ⟨_, rfl, rfl⟩ | (intro h; simp only [hbb, hbt, List.length_append, List.length_map, len_scells, take_scells, take_scellsC, len_vcells, take_vcells, take_vcellsC, h, true_and]; omega) | (clear hK; intro h; simp_all <;> omega), hK _ _ _ ?_⟩); clear hK K) | refine VC.draw mixP (by rfl) (by rfl) ?_ | refine ⟨okd_of (by kernel_rfl), ?_⟩ | refine BQ.other (by decide) ?_ | refine VC.seq ?_ | refine AO.nil ?_ | refine VC.block ?_ | refine VC.condT (by rfl) (by trivial) ?_ | refine VC.condF (by rfl) (by trivial) ?_))
   refine AO.stepJw rfl (J_callZ _ _ _ _ 368 (b.length + t.length) _ (bytePV (b ++ t)) [.agg (s.cells.map .c), .c (.v (.int .i64 a))] [.c (.v (.int .i64 0))] rfl (by simp [okx, putd, upd, AV.okb]) rfl rfl ?_ ?_ rfl ?_ hT2) ?_
   · simp [Blkd.len, hbb, hbt]
   · exact hall
   · simp [AV.pureL, AV.pureB, pureL_c]
   refine walkBF (And.intro e5 (And.intro e6 (And.intro e7 (And.intro @len_vcells (And.intro @take_vcells @take_vcellsC))))) ?_
   refine walkCF (@pureL_c) (hW) ?_
   refine walkB ?_
   refine ⟨by first | exact .inr rfl | exact .inl rfl, ?_⟩; rw [Tryz.results7]; simp only [resOk, resV, go_sem, simprocAttr]
   exact .c _
end

theorem arg_bytes {x : AV} (h : TyAV Tryz.prog 40 x) : ∃ l : List UInt8, x = .c (.sl 1 (bytePV l)) := by
 obtain ⟨ps, h1, h2⟩ := h
 obtain ⟨l, rfl⟩ := ty_bytes h1
 rcases h2 with ⟨⟨fs, h2⟩, _⟩ | ⟨_, q, h2, rfl⟩
 · simp [Tryz.underlying40] at h2
 · simp at h2
   subst h2
   exact ⟨l, rfl⟩
section

theorem gWords : Tryz.prog.globalNamed "avocet/naming.words" = some 0 := by kernel_rfl
theorem tWords : (Tryz.prog.globals[0]?).map (·.type) = some 241 := by kernel_rfl
theorem uWords : Tryz.prog.underlying 241 = some (.array 15 9) := by kernel_rfl
theorem cWords : Tryz.prog.cellsOf 9 = 1 := by kernel_rfl
theorem onlyWords : ((List.range Tryz.prog.globals.size).all fun g => g == 0 || (glob Tryz.prog g).isNone) = true := by kernel_rfl
theorem globWords : glob Tryz.prog 0 = some (kwords.map fun w => PV.v (.string (str w))) := by kernel_rfl
theorem words_cells {W : World} (h : laidMetH Tryz.prog [("avocet/naming.words", Rows.laid_avocet_naming_words)] W) :
  ∃ cs : Array Value, (∀ i, W.cell? ⟨0, i, none⟩ = cs[i]?) ∧ cs.size = 15 ∧ ∀ (i : Nat) (w : List UInt8), kwords[i]? = some w → cs[i]? = some (.string (str w)) := by
 rw [MakeChecks.laidMetH_plain _ _ _ (by kernel_rfl)] at h
 obtain ⟨ps, ⟨g0, t0, cs0, f0, p0, q0, hg0, ht0, hv0, hd0, _, _⟩, _, _⟩ := h
 obtain rfl := Option.some.inj (gWords.symm.trans hg0)
 obtain rfl := Option.some.inj (tWords.symm.trans ht0)
 obtain ⟨xs, m1, rfl, hx1, hlen, hn15, hel⟩ := DataW.trod_array uWords hd0
 simp only [Rows.laid_avocet_naming_words, Prod.mk.injEq, DataW.agg.injEq] at hx1
 have hx2 : kwords.map (fun w => (DataW.lit (.string w) : DataW Unit)) = xs.map (·.1) := hx1.1
 have hat : ∀ i, i < 15 → ∃ s : ByteArray, cs0[i]? = some (.string s) ∧ ∃ x, xs[i]? = some x ∧ x.1 = .lit (.string s.data.toList) := by
  intro i hi
  obtain ⟨x, hx⟩ : ∃ x, xs[i]? = some x := ⟨xs[i]'(by omega), List.getElem?_eq_getElem (by omega)⟩
  have h1 := hel i hi
  rw [hx] at h1
  obtain ⟨s, e1, e2, _⟩ := DataW.trod_string Tryz.underlying9 h1
  rw [cWords, Nat.mul_one] at e1
  refine ⟨s, ?_, x, hx, by rw [e2]⟩
  have h2 : (cs0.toList.drop i)[0]? = some (.string s) := by
   have h3 : ((cs0.toList.drop i).take 1)[0]? = some (.string s) := by rw [e1]; rfl
   rwa [List.getElem?_take_of_lt (by decide)] at h3
  rw [List.getElem?_drop, Nat.add_zero] at h2
  simpa using h2
 refine ⟨cs0, fun i => World.var?_cell hg0 hv0 i, ?_, fun i w hw => ?_⟩
 · have := hlen
   rw [show Tryz.prog.cellsOf 241 = 15 by kernel_rfl] at this
   simpa using this
 · have hi : i < 15 := (List.getElem?_eq_some_iff.1 hw).1
   obtain ⟨s, h1, x, h2, h3⟩ := hat i hi
   have h4 : (xs.map (·.1))[i]? = some (.lit (.string w)) := by rw [← hx2, List.getElem?_map, hw]; rfl
   rw [List.getElem?_map, h2] at h4
   have h5 : x.1 = .lit (.string w) := Option.some.inj h4
   rw [h3] at h5
   have h6 : s.data.toList = w := Lit.string.inj (DataW.lit.inj h5)
   have h7 : s = str w := by
    apply ByteArray.ext
    rw [← h6]
    show s.data = s.data.toList.toArray
    exact (Array.toArray_toList).symm
   rw [h1, h7]
theorem gok_words {W : World} (h : laidMetH Tryz.prog [("avocet/naming.words", Rows.laid_avocet_naming_words)] W) : GOk Tryz.prog W (fun k => k < W.heap.size) := by
 obtain ⟨cs, h1, h2, h3⟩ := words_cells h
 intro g cells hc
 have hg : g = 0 := by
  by_cases hlt : g < Tryz.prog.globals.size
  · have := List.all_eq_true.1 onlyWords g (List.mem_range.2 hlt)
    rw [hc] at this
    simpa using this
  · unfold glob at hc
    rw [Array.getElem?_eq_none (by omega)] at hc
    simp at hc
 subst hg
 rw [globWords] at hc
 obtain rfl := Option.some.inj hc
 refine ⟨?_, cs.toList, fun j hj => ?_, ⟨by simp [h2, kwords], fun j p v hp hv => ?_⟩⟩
 · have h4 := h1 0
   rw [h3 0 [] rfl] at h4
   by_cases hlt : 0 < W.heap.size
   · exact hlt
   · unfold World.cell? at h4
     simp only [] at h4
     rw [Array.getElem?_eq_none (by omega)] at h4
     simp at h4
 · rw [Nat.zero_add, h1 j]
   simp
 · rw [List.getElem?_map] at hp
   cases hw : kwords[j]? with
   | none => rw [hw] at hp; simp at hp
   | some w =>
     rw [hw] at hp
     obtain rfl := Option.some.inj hp
     have h5 := h3 j w hw
     rw [Array.getElem?_toList] at hv
     rw [h5] at hv
     obtain rfl := Option.some.inj hv
     exact .v rfl
section
variable {P : Program} {w : World}
theorem law_toldG (hg : GOk P w (fun k => k < w.heap.size)) {f : FuncId} {args : List AV} (hT : Told P f args (.c (.v (.bool true)))) {vs : List Value} (hl : vs.length = args.length) (hr : ∀ (j : Nat) (x : AV) (v : Value), args[j]? = some x → vs[j]? = some v → Rep w (fun b => b < w.heap.size) φ0 h0 x v) :
  Calls P f vs.toArray w fun e W' => e = .returned (.bool true) ∧ Below w.heap.size w W' := by
 refine (hT.2 w (fun k => k < w.heap.size) vs (fun _ h => h) hg ⟨hl, hr⟩).mono ?_
 rintro e W' ⟨v, ro', rfl, hb, _, _, hr, _⟩
 obtain rfl := rep_prim hr
 exact ⟨rfl, hb⟩
end
end
end
end Go.Proofs.YtllnlmchjljhlaaGreatDoor
