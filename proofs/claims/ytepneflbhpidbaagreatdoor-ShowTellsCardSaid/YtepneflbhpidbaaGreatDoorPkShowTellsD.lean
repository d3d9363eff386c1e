/- Texts that lead to the law ShowTells, joined. -/
import Derived.Test.YtepneflbhpidbaaGreatDoorPkShowTellsC
import Derived.Test.YtepneflbhpidbaaGreatDoorPkShowTellsA
import Derived.Test.YtepneflbhpidbaaGreatDoorPkShowTellsXAbB
import Derived.ProofKit
import Derived.OpenShut
import Derived.ChangeOld
import Derived.Below
import Derived.Test.YtepneflbhpidbaaGreatDoorPkShowTellsB
namespace Go.Proofs.YtepneflbhpidbaaGreatDoor
set_option maxRecDepth 100000
set_option maxHeartbeats 6400000
open Go.RowKit
set_option linter.unusedVariables false
set_option linter.unusedSimpArgs false
section
attribute [local go_sem] opx opE ev okx gcond bnd okO AV.get AV.okb cAV upd_at putd_some putd_none wrs_nil wrs_cons look_nil look_cons st argT_at bpick_and bpick_or bpick_true bpick_false binV binI binS binVOk binOk isShift binSOk unV unVOk loadV loadP cellsA zeroA Blkd.len setE grown moreA moreR moreOk eqRes pv fillA fillE putSeg AV.cellish AV.pureL AV.pureB lentL_is ex_some AV.ren AV.renL renL_c Blkd.ren rho wrM renN lentOk rhoE keepM endOk tyA_2 tyA_3 tyA_4 tyA_5 tyA_6 tyA_7 tyA_8 tyA_9 tyA_10 tyA_11 tyA_12 tyA_13 tyA_14 tyA_15 tyA_16 tyA_17 tyA_18 tyA_19 tyA_21 tyA_22 tyA_23 tyA_24 tyA_29 tyA_30 tyA_31 tyA_32 tyA_33 tyA_34 tyA_35 tyA_36 tyA_37 tyA_38 tyA_39 tyA_40 tyA_41 tyA_42 tyA_43 tyA_48 tyA_72 tyA_76 tyA_85 tyA_86 tyA_87 tyA_88 tyA_97 tyA_100 tyA_101 tyA_102 tyA_103 tyA_104 tyA_105 tyA_106 tyA_128 tyA_137 tyA_138 tyA_139 tyA_140 tyA_141 tyA_142 tyA_147 tyA_148 tyA_149 tyA_167 tyA_168 tyA_169 tyA_170 tyA_172 tyA_176 tyA_177 tyA_178 tyA_186 tyA_196 tyA_231 tyA_232 tyA_233 tyA_257 tyA_262 tyA_268 tyA_270 tyA_272 tyA_281 tyA_285 tyA_287 tyA_290 tyA_291 tyA_292 tyA_293 tyA_294 tyA_295 tyA_296 tyA_298 tyA_299 Option.map_some Option.map_none Option.getD_some Option.getD_none Option.bind_some Option.bind_none List.getElem?_cons_zero List.getElem?_cons_succ List.getElem?_nil List.getElem?_toArray List.length_cons List.length_nil List.length_map List.forall_mem_map List.map_cons List.map_nil List.drop_zero List.drop_succ_cons List.drop_nil List.take_zero List.take_succ_cons List.take_nil List.mem_cons List.not_mem_nil or_false forall_eq_or_imp forall_eq List.set_cons_zero List.set_cons_succ List.cons_append List.nil_append List.append_nil List.foldl_cons List.foldl_nil List.replicate_succ List.replicate_zero List.all_cons List.all_nil if_true if_false Bool.false_eq_true ne_eq not_false_eq_true not_true_eq_false true_and and_true and_self true_implies imp_self implies_true forall_const beq_self_eq_true Bool.and_true Bool.true_and Bool.and_false Bool.false_and Bool.or_true Bool.true_or Bool.or_false Bool.false_or Bool.not_true Bool.not_false Bool.not_eq_eq_eq_not intKindOf Value.oneCell' Int.toNat_natCast beq_true beq_false Bool.not_eq_true false_implies false_or true_or or_true Nat.zero_add Nat.add_zero decide_true decide_false Int.cast_ofNat_Int Int.toNat_zero Int.toNat_one eq_self

theorem drop_cellsC (t : JT) : (t.cells.map AV.c).drop 5 = [] := List.drop_eq_nil_of_le (by rw [List.length_map, len_cells]; exact Nat.le_refl _)
def kidsL (n : NT) (X : Nat → JT) (i : Nat) : List JT := if n.kind = 9 then fieldsJ n.fields X i else brsJ X i
theorem fieldsJ_len' (fs : List FT) (X : Nat → JT) : ∀ i, i ≤ fs.length → (fieldsJ fs X i).length = i
 | 0, _ => rfl
 | i + 1, h => by
   rw [fieldsJ, List.getElem?_eq_getElem (by omega), List.length_append, fieldsJ_len' fs X i (by omega)]
   rfl
theorem brsJ_len' (X : Nat → JT) : ∀ i, (brsJ X i).length = i
 | 0 => rfl
 | i + 1 => by rw [brsJ, List.length_append, brsJ_len' X i]; rfl
theorem kidsL_zero (n : NT) (X : Nat → JT) : kidsL n X 0 = [] := by unfold kidsL; split <;> rfl
theorem kidsL_len (n : NT) (X : Nat → JT) {i : Nat} (h : i ≤ (kidsN n).length) : (kidsL n X i).length = i := by
 unfold kidsL
 by_cases h9 : n.kind = 9
 · rw [if_pos h9]
   unfold kidsN at h
   rw [if_pos h9, List.length_map] at h
   exact fieldsJ_len' _ _ _ h
 · rw [if_neg h9, brsJ_len']
theorem kidsL_rec {n : NT} {X : Nat → JT} {i : Nat} {f : FT} (h9 : n.kind = 9) (hf : n.fields[i]? = some f) : rA JT.cells (kidsL n X i) ++ [(objJ (fieldO f (X i))).cells.map .c] = rA JT.cells (kidsL n X (i + 1)) := by
 unfold kidsL
 rw [if_pos h9, if_pos h9, fieldsJ, hf]
 simp [rA]
theorem kidsL_oth {n : NT} {X : Nat → JT} (i : Nat) (h9 : ¬ n.kind = 9) : rA JT.cells (kidsL n X i) ++ [(X i).cells.map .c] = rA JT.cells (kidsL n X (i + 1)) := by
 unfold kidsL
 rw [if_neg h9, if_neg h9, brsJ]
 simp [rA]
theorem rtree_told (s : ST) (hs : s.sm 1000000) (hkd : ∀ n ∈ s.nodes, 1 ≤ n.kind ∧ n.kind ≤ 14) : ∀ (d : Nat) (k : Int) (p : Nat), KidAt s.nodes d k p → ∀ (a : List UInt8),
  Told Tryz.prog 53 [s.av, .c (.v (.int .i64 k)), .c (.v (.int .i64 (p : Int))), .c (.v (.string (str a)))] (.tup [(treeN s.nodes d k.toNat p).av, .c (.v (.int .i64 (plN s.nodes d k.toNat p : Int))), .c (.v (.bool (okTr s.nodes d k.toNat p a)))]) := by
 intro d
 induction d with
 | zero =>
   intro k p hkid a
   obtain ⟨q, rfl⟩ : ∃ q : Nat, k = (q : Int) := ⟨k.toNat, by have := hkid.1; omega⟩
   rw [Int.toNat_natCast]
   obtain ⟨h0, h | ⟨hlt, hnm⟩⟩ := hkid
   · have h := h.2
     rw [walkM] at h
     simp at h
   · rw [Int.toNat_natCast] at hlt hnm
     exact rtree_met s hs 0 q p hlt hnm a
 | succ d ih =>
 intro k p hkid a
 obtain ⟨q, rfl⟩ : ∃ q : Nat, k = (q : Int) := ⟨k.toNat, by have := hkid.1; omega⟩
 rw [Int.toNat_natCast]
 obtain ⟨h0, h | h⟩ := hkid
 rotate_left
 · rw [Int.toNat_natCast] at h
   exact rtree_met s hs (d + 1) q p h.1 h.2 a
 obtain ⟨hqp, hw⟩ := h
 rw [Int.toNat_natCast] at hqp
 subst hqp
 rw [walkM] at hw
 obtain ⟨n, hn⟩ : ∃ n, s.nodes[q]? = some n := by
  cases hq : s.nodes[q]? with
  | none => rw [hq] at hw; simp at hw
  | some n => exact ⟨n, rfl⟩
 rw [hn] at hw
 simp only [] at hw
 have hq1 := (List.getElem?_eq_some_iff.1 hn).1
 have hnl := hs.1
 have hsm := hs.2 n (List.mem_of_getElem? hn)
 obtain ⟨k1, k2⟩ := hkd n (List.mem_of_getElem? hn)
 have hpl := (walkK_plc (pl_place s.nodes d) (kidsN n) (q + 1) _ (Prod.ext hw rfl)).2
 clear hw
 rw [treeN_new s.nodes d q n hn, okTr_new s.nodes d q n a hn, plN_new s.nodes d q n hn]
 obtain ⟨P, hP⟩ : ∃ P : Nat → Nat, P = fun i => plK (plN s.nodes d) ((kidsN n).take i) (q + 1) := ⟨_, rfl⟩
 obtain ⟨X, hX⟩ : ∃ X, X = kidJ (treeN s.nodes d) (plN s.nodes d) (kidsN n) (q + 1) := ⟨_, rfl⟩
 obtain ⟨K, hK⟩ : ∃ K, K = kidOk (okTr s.nodes d) (plN s.nodes d) (kidsN n) (q + 1) (aroundM n a) := ⟨_, rfl⟩
 have hP0 : P 0 = q + 1 := by rw [hP]; rfl
 have hPe : plK (plN s.nodes d) (kidsN n) (q + 1) = P (kidsN n).length := by
  rw [hP]
  simp only []
  rw [List.take_length]
 have hT : ∀ (i : Nat) (k : Int), (kidsN n)[i]? = some k →
   Told Tryz.prog 53 [s.av, .c (.v (.int .i64 k)), .c (.v (.int .i64 (P i : Int))), .c (.v (.string (str (aroundM n a))))] (.tup [(X i).av, .c (.v (.int .i64 (P (i + 1) : Int))), .c (.v (.bool (K i)))]) := fun i k hki => by
  have e1 : X i = treeN s.nodes d k.toNat (P i) := by rw [hX, kidJ, hki, hP]
  have e2 : P (i + 1) = plN s.nodes d k.toNat (P i) := by rw [hP]; exact plK_take _ _ _ _ _ hki
  have e3 : K i = okTr s.nodes d k.toNat (P i) (aroundM n a) := by rw [hK, kidOk, hki, hP]
  rw [e1, e2, e3]
  have := hpl i k hki
  rw [show plK (plN s.nodes d) ((kidsN n).take i) (q + 1) = P i by rw [hP]] at this
  exact ih k (P i) this _
 rw [hPe, ← hX, ← hK]
 clear hP hX hK hPe hpl ih
 have hxp : (s.nodes.map NT.cells)[q]? = some n.cells := by rw [List.getElem?_map, hn]; rfl
 have hNm := rnamed10_told n.kind
 have hSp := rspace_told n.name (by have := hsm.1; omega)
 have hlp : decide ((q : Int) < (q : Int)) = false := by simp
 have hwq : IntKind.i64.wrap ((q : Int) + 1) = ((q + 1 : Nat) : Int) := by rw [wrap64_id (by omega) (by omega)]; omega
 obtain ⟨u, hu⟩ : ∃ u : Nat, n.kind = (u : Int) := ⟨n.kind.toNat, by omega⟩
 have hWd := rword_told u (by omega) (wordM u) (word_at u (by omega))
 have hTx := rtext17_told (wordM u)
 obtain ⟨bn, hbn⟩ : ∃ bn, bn = namedK n.kind := ⟨_, rfl⟩
 rw [← hbn] at hNm
 by_cases h8 : n.kind ≤ 8
 · have hnm : namedK n.kind = false := by
    cases hb : namedK n.kind with
    | false => rfl
    | true =>
      simp only [namedK, Bool.or_eq_true, beq_iff_eq] at hb
      omega
   have hkn : kidsN n = [] := by unfold kidsN; rw [if_neg (by omega), if_neg (by omega), if_neg (by omega)]
   have hso : selfOk n = true := by unfold selfOk; rw [hnm]; rfl
   rw [hkn, List.length_nil, hP0, hso, show oksM K 0 = true from rfl, Bool.and_true]
   have hnj : nodeJ n X = textJ (wordM u) := by
    unfold nodeJ
    rw [if_neg (by omega), if_neg (by omega), if_neg (by omega), if_neg (by omega), if_neg (by omega), if_neg (by omega), hu, Int.toNat_natCast]
   rw [hnj]
   clear hnj
   obtain rfl : bn = false := hbn.trans hnm
   generalize textJ (wordM u) = y at *
   generalize wordM u = wd at *
   have k8 : decide ((u : Int) ≤ 8) = true := by simp; omega
   rw [hu] at hNm
   simp only [JT.av_eq] at hTx ⊢
   rw [ST.av_eq, scells_mk]
   refine VC.toldP ent_53 Tryz.func53 rfl Tryz.ntmps53 fun hb => ?_
   clear hb
   refine walkGF (And.intro hxp (And.intro @ncells_mk hu)) ?_
   refine walkC (hNm) ?_
   refine walkGF (And.intro @ncells_mk hu) ?_
   refine walkC (hSp) ?_
   refine walkBF (And.intro hlp (And.intro @ncells_mk (And.intro hu (And.intro k8 hwq)))) ?_
   refine walkC (hWd) ?_
   refine walkG ?_
   refine walkC (hTx) ?_
   refine walkBF (And.intro @len_cells (And.intro @take_cells (And.intro @take_cellsC @drop_cellsC))) ?_
   refine retXF (And.intro @len_cells @take_cellsC) Tryz.results53 ?_
   exact ⟨Frz.cs _ _, .c _, .c _⟩
 rw [← hu] at hWd
 have k8 : decide (n.kind ≤ 8) = false := by simp; omega
 have hKd := rkids_told n hsm
 have hkl : (kidsN n).length ≤ 1000000 := by
  unfold kidsN
  split
  · rw [List.length_map]; exact hsm.2.2.2.2.2.1
  · split
    · simp
    · split
      · exact hsm.2.2.2.2.1
      · simp
 rw [ST.av_eq] at hT ⊢
 rw [JT.av_eq]
 rw [NT.av_eq] at hKd
 refine VC.toldP ent_53 Tryz.func53 rfl Tryz.ntmps53 fun hb => ?_
 clear hb
 refine walkGF (And.intro hxp (And.intro @ncells_mk @scells_mk)) ?_
 refine walkC (hNm) ?_
 refine walkGF (@ncells_mk) ?_
 refine walkC (hSp) ?_
 refine walkBF (And.intro hlp (And.intro @ncells_mk (And.intro k8 (And.intro hwq hlp)))) ?_
 refine VC.meet [(2, .c (.v (.int .i64 ((q + 1 : Nat) : Int)))), (3, .c (.v (.string (str (aroundM n a))))), (4, .ref 0 1 0 0), (8, .ref 8 1 0 0), (11, .ref 72 1 0 0), (13, .c (.v (.string (str (spaceM n.name))))), (14, .c (.v (.bool true)))]
  [(0, ⟨false, 24, 2, [s.cells.map .c]⟩), (8, ⟨false, 36, 5, [[.c (.v (.int .i64 0)), .c (.v (.int .i64 0)), .c (.v (.string ⟨#[]⟩)), .c (.v (.slice none 0 0)), .c (.v (.slice none 0 0))]]⟩), (72, ⟨false, 33, 10, [n.cells.map .c]⟩)] 400 ?_ ?_
 · refine VC.cond (by rfl) (by trivial) (fun hc => ?_) (fun hc => ?_)
   · have h9 : n.kind = 9 := by simpa using hc
     rw [show aroundM n a = spaceM n.name by unfold aroundM; rw [if_pos h9]]
     refine walkG ?_
     refine .normal ?_
     exact weakZF (And.intro @ncells_mk @scells_mk)
   · have h9 : ¬ n.kind = 9 := by simpa using hc
     rw [show aroundM n a = a by unfold aroundM; rw [if_neg h9]]
     refine walkG ?_
     refine .normal ?_
     exact weakZF (And.intro @ncells_mk @scells_mk)
 refine walkGF (And.intro @len_ncells (And.intro @take_ncells @take_ncellsC)) ?_
 refine walkCF (@pureL_c) (hKd) ?_
 refine walkG ?_
 refine VC.nilH 432 3 36 5 ⟨false, 36, 5, [[.c (.v (.int .i64 5)), .c (.v (.int .i64 0)), .c (.v (.string ⟨#[]⟩)), .c (.v (.slice none 0 0)), .c (.v (.slice none 0 0))]]⟩ [.c (.v (.int .i64 5)), .c (.v (.int .i64 0)), .c (.v (.string ⟨#[]⟩)), .c (.v (.slice none 0 0)), .c (.v (.slice none 0 0))] rfl rfl rfl rfl (by rfl) ?_
 refine VC.loop (ι := {i : Nat // i ≤ (kidsN n).length}) (fun z => [(2, .c (.v (.int .i64 (P z.1 : Int)))), (3, .c (.v (.string (str (aroundM n a))))), (4, .ref 0 1 0 0), (8, .ref 8 1 0 0), (11, .ref 72 1 0 0), (13, .c (.v (.string (str (spaceM n.name))))), (14, .c (.v (.bool (oksM K z.1)))),
   (15, .c (.sl 1 ((kidsN n).map iPV))), (16, .ref 432 1 0 0), (17, .c (.v (.int .i64 (z.1 : Int))))])
  (fun z => [(0, ⟨false, 24, 2, [s.cells.map .c]⟩), (8, ⟨false, 36, 5, [[.c (.v (.int .i64 0)), .c (.v (.int .i64 0)), .c (.v (.string ⟨#[]⟩)), .c (.v (.slice none 0 0)), .c (.v (.slice none 0 0))]]⟩), (72, ⟨false, 33, 10, [n.cells.map .c]⟩), (432, ⟨false, 36, 5, [[.c (.v (.int .i64 5)), .c (.v (.int .i64 0)), .c (.v (.string ⟨#[]⟩)), .row 456 z.1, .c (.v (.slice none 0 0))]]⟩), (456, ⟨true, 36, 5, rA JT.cells (kidsL n X z.1)⟩)]) 800 (fun z => (kidsN n).length - z.1) ⟨0, Nat.zero_le _⟩ ?_ ?_
 · refine weakXF (And.intro @rA_len (And.intro @rA_sc (And.intro @rA_nil (And.intro @kidsL_zero hP0)))) ?_
   rfl
 rintro ⟨i, hi⟩
 simp only []
 have hkli := kidsL_len n X hi
 refine walkG ?_
 refine VC.cond (by rfl) (by trivial) (fun hc => ?_) (fun hc => ?_)
 · have hlt : i < (kidsN n).length := by simp at hc; omega
   obtain ⟨k, hx⟩ : ∃ k, (kidsN n)[i]? = some k := ⟨(kidsN n)[i], List.getElem?_eq_getElem hlt⟩
   have hxq : ((kidsN n).map iPV)[i]? = some [.v (.int .i64 k)] := by rw [List.getElem?_map, hx]; rfl
   have hw : IntKind.i64.wrap ((i : Int) + 1) = (i : Int) + 1 := wrap64_id (by omega) (by omega)
   have hTi := hT i k hx
   have hok : (oksM K i && K i) = oksM K (i + 1) := rfl
   have hkl1 := kidsL_len n X (show i + 1 ≤ (kidsN n).length by omega)
   rw [JT.av_eq] at hTi
   by_cases h9 : n.kind = 9
   · have b9 : (n.kind == 9) = true := by simpa using h9
     have hfl : (kidsN n).length = n.fields.length := by unfold kidsN; rw [if_pos h9, List.length_map]
     obtain ⟨f, hf⟩ : ∃ f, n.fields[i]? = some f := ⟨n.fields[i]'(by omega), List.getElem?_eq_getElem (by omega)⟩
     have hap := kidsL_rec (X := X) h9 hf
     have hfp : (n.fields.map FT.cells)[i]? = some f.cells := by rw [List.getElem?_map, hf]; rfl
     obtain ⟨_, hfal, _, _⟩ := hsm.2.2.2.2.2.2 f (List.mem_of_getElem? hf)
     have hN := rtext17_told f.name
     have hA := rtexts17_told f.aliases hfal
     generalize X i = x at hTi hap
     obtain ⟨b3, hb3⟩ : ∃ b3, b3 = decide ((f.aliases.length : Int) > 0) := ⟨_, rfl⟩
     have hgt : decide (0 < f.aliases.length) = b3 := by rw [hb3, decide_eq_decide]; omega
     replace hb3 := hb3.symm
     have w0 := rwith0_told aName (textJ f.name)
     have w1 := rwithO_told [(aName, textJ f.name)] (by simp) aType x
     rw [List.singleton_append] at w1
     have w2 := rwithO_told [(aName, textJ f.name), (aType, x)] (by simp) aAliases (textsJ f.aliases)
     have hj3 : objJ (putO [(aName, textJ f.name), (aType, x)] b3 aAliases (textsJ f.aliases)) = if b3 = true then objJ ([(aName, textJ f.name), (aType, x)] ++ [(aAliases, textsJ f.aliases)]) else objJ [(aName, textJ f.name), (aType, x)] := by cases b3 <;> rfl
     have w3 := rwithO_told (putO [(aName, textJ f.name), (aType, x)] b3 aAliases (textsJ f.aliases)) (by have := (putO_len [(aName, textJ f.name), (aType, x)] b3 aAliases (textsJ f.aliases)).2; simp at this; omega) aDefault f.dflt
     have hj4 : objJ (fieldO f x) = if f.has = true then objJ (putO [(aName, textJ f.name), (aType, x)] b3 aAliases (textsJ f.aliases) ++ [(aDefault, f.dflt)]) else objJ (putO [(aName, textJ f.name), (aType, x)] b3 aAliases (textsJ f.aliases)) := by
      unfold fieldO
      rw [hgt]
      cases f.has <;> rfl
     rw [hj4] at hap
     clear hj4
     generalize objJ (putO [(aName, textJ f.name), (aType, x)] b3 aAliases (textsJ f.aliases) ++ [(aDefault, f.dflt)]) = j4 at *
     generalize objJ (putO [(aName, textJ f.name), (aType, x)] b3 aAliases (textsJ f.aliases)) = j3 at *
     generalize objJ ([(aName, textJ f.name), (aType, x)] ++ [(aAliases, textsJ f.aliases)]) = j2a at *
     generalize objJ [(aName, textJ f.name), (aType, x)] = j2 at *
     generalize objJ [(aName, textJ f.name)] = j1 at *
     generalize textJ f.name = y1 at *
     generalize textsJ f.aliases = y2 at *
     simp only [JT.av_eq, str_aName, str_aType, str_aAliases, str_aDefault] at hN hA w0 w1 w2 w3
     refine walkGF (And.intro hxq (And.intro @len_scells (And.intro @take_scells @take_scellsC))) ?_
     refine walkCF (@pureL_c) (hTi) ?_
     refine walkBF (And.intro @len_cells (And.intro @take_cells (And.intro @take_cellsC (And.intro @drop_cellsC (And.intro @ncells_mk (And.intro b9 (And.intro hok (And.intro hfp (And.intro @len_fcells (And.intro @take_fcells (And.intro @take_fcellsC @fcells_mk))))))))))) ?_
     refine walkC (hN) ?_
     refine walkG ?_
     refine walkCF (@pureL_c) (w0) ?_
     refine walkGF (And.intro @len_cells (And.intro @take_cells (And.intro @take_cellsC @drop_cellsC))) ?_
     refine walkCF (@pureL_c) (w1) ?_
     refine walkGF (And.intro @len_cells (And.intro @take_cells (And.intro @take_cellsC (And.intro @drop_cellsC (And.intro @fcells_mk hb3))))) ?_
     refine VC.meet [(2, .c (.v (.int .i64 (P (i + 1) : Int)))), (3, .c (.v (.string (str (aroundM n a))))), (4, .ref 0 1 0 0), (8, .ref 8 1 0 0), (11, .ref 72 1 0 0), (13, .c (.v (.string (str (spaceM n.name))))), (14, .c (.v (.bool (oksM K (i + 1))))),
      (15, .c (.sl 1 ((kidsN n).map iPV))), (16, .ref 432 1 0 0), (17, .c (.v (.int .i64 (i : Int)))), (18, .ref 928 1 0 0), (21, .ref 1080 1 0 0), (22, .ref 1152 1 0 0)]
      [(0, ⟨false, 24, 2, [s.cells.map .c]⟩), (8, ⟨false, 36, 5, [[.c (.v (.int .i64 0)), .c (.v (.int .i64 0)), .c (.v (.string ⟨#[]⟩)), .c (.v (.slice none 0 0)), .c (.v (.slice none 0 0))]]⟩), (72, ⟨false, 33, 10, [n.cells.map .c]⟩), (432, ⟨false, 36, 5, [[.c (.v (.int .i64 5)), .c (.v (.int .i64 0)), .c (.v (.string ⟨#[]⟩)), .row 456 i, .c (.v (.slice none 0 0))]]⟩), (456, ⟨true, 36, 5, rA JT.cells (kidsL n X i)⟩), (928, ⟨false, 36, 5, [x.cells.map .c]⟩), (1080, ⟨false, 38, 9, [f.cells.map .c]⟩), (1152, ⟨false, 36, 5, [j3.cells.map .c]⟩)] 2000 ?_ ?_
     · cases b3 with
       | true =>
         rw [if_pos rfl] at hj3
         subst hj3
         refine walkBF (And.intro @fcells_mk (And.intro @len_cells (And.intro @take_cells (And.intro @take_cellsC @drop_cellsC)))) ?_
         refine walkC (hA) ?_
         refine walkG ?_
         refine walkCF (@pureL_c) (w2) ?_
         refine walkGF (And.intro @len_cells (And.intro @take_cells (And.intro @take_cellsC @drop_cellsC))) ?_
         refine .normal ?_
         refine weakXF (And.intro @rA_len (And.intro @rA_sc (And.intro hkli (And.intro @ncells_mk (And.intro @scells_mk (And.intro @fcells_mk (And.intro @len_cells @drop_cellsC))))))) ?_
         exact Nat.le_refl _
       | false =>
         rw [if_neg (by decide)] at hj3
         subst hj3
         refine walkB ?_
         refine .normal ?_
         refine weakXF (And.intro @rA_len (And.intro @rA_sc (And.intro hkli (And.intro @ncells_mk (And.intro @scells_mk (And.intro @fcells_mk (And.intro @len_cells @drop_cellsC))))))) ?_
         exact Nat.le_refl _
     cases hh : f.has with
     | true =>
       rw [hh, if_pos rfl] at hap
       refine walkBF (And.intro @fcells_mk (And.intro hh (And.intro @len_cells (And.intro @take_cells (And.intro @take_cellsC @drop_cellsC))))) ?_
       refine walkCF (@pureL_c) (w3) ?_
       refine walkBF (And.intro @len_cells (And.intro @take_cells (And.intro @take_cellsC (And.intro @drop_cellsC (And.intro hap (And.intro @rA_len (And.intro hkli hw))))))) ?_
       refine .next ⟨i + 1, by omega⟩ ?_ (by simp only []; omega)
       refine weakXF (And.intro @rA_len (And.intro @rA_sc (And.intro hkl1 (And.intro @ncells_mk @scells_mk)))) ?_
       exact ⟨cI (by omega), Nat.le_refl _⟩
     | false =>
       rw [hh, if_neg (by decide)] at hap
       refine walkBF (And.intro @fcells_mk (And.intro hh (And.intro @len_cells (And.intro @take_cells (And.intro @take_cellsC (And.intro @drop_cellsC (And.intro hap (And.intro @rA_len (And.intro hkli hw))))))))) ?_
       refine .next ⟨i + 1, by omega⟩ ?_ (by simp only []; omega)
       refine weakXF (And.intro @rA_len (And.intro @rA_sc (And.intro hkl1 (And.intro @ncells_mk @scells_mk)))) ?_
       exact ⟨cI (by omega), Nat.le_refl _⟩
   · have b9 : (n.kind == 9) = false := by simpa using h9
     have hap := kidsL_oth (X := X) i h9
     generalize X i = x at hTi hap
     refine walkGF (And.intro hxq (And.intro @len_scells (And.intro @take_scells @take_scellsC))) ?_
     refine walkCF (@pureL_c) (hTi) ?_
     refine walkBF (And.intro @len_cells (And.intro @take_cells (And.intro @take_cellsC (And.intro @drop_cellsC (And.intro @ncells_mk (And.intro b9 (And.intro hok (And.intro hap (And.intro @rA_len (And.intro hkli hw)))))))))) ?_
     refine .next ⟨i + 1, by omega⟩ ?_ (by simp only []; omega)
     refine weakXF (And.intro @rA_len (And.intro @rA_sc (And.intro hkl1 (And.intro @ncells_mk @scells_mk)))) ?_
     exact ⟨cI (by omega), Nat.le_refl _⟩
 have hie : i = (kidsN n).length := by simp at hc; omega
 subst hie
 clear hT hKd hNm hc hP0 hwq hlp hxp
 by_cases h13 : n.kind = 13
 · have b13 : (n.kind == 13) = true := by simpa using h13
   have hnm : namedK n.kind = false := by rw [h13]; rfl
   have hso : selfOk n = true := by unfold selfOk; rw [hnm]; rfl
   have hnj : nodeJ n X = listJ (brsJ X n.branches.length) := by
    unfold nodeJ
    rw [if_neg (by omega), if_neg (by omega), if_neg (by omega), if_pos h13]
   have hkn : kidsL n X (kidsN n).length = brsJ X n.branches.length := by
    unfold kidsL kidsN
    rw [if_neg (by omega), if_neg (by omega), if_neg (by omega), if_pos h13]
   rw [hso, Bool.true_and, hnj, listJ, cells_mk]
   rw [← hkn]
   refine walkBF (And.intro @ncells_mk (And.intro b13 (And.intro @rA_len hkli))) ?_
   refine retXF (And.intro @rA_len hkli) Tryz.results53 ?_
   exact ⟨Frz.aggL (.cons (.c _) (.cons (.c _) (.cons (.c _) (.cons (frz_rA (f := JT.cells) (l := kidsL n X (kidsN n).length) (T := 36) rfl hkli rfl fun x _ => len_cells x) (.cons (.nil 1) .nil))))), .c _, .c _⟩
 have b13 : (n.kind == 13) = false := by simpa using h13
 have w0 := rwith0_told aType (textJ (wordM u))
 by_cases h1112 : n.kind = 11 ∨ n.kind = 12
 · have hnm : namedK n.kind = false := by rcases h1112 with h | h <;> rw [h] <;> rfl
   have hso : selfOk n = true := by unfold selfOk; rw [hnm]; rfl
   have hkn : kidsN n = [n.items] := by unfold kidsN; rw [if_neg (by omega), if_pos h1112]
   have hnj : nodeJ n X = objJ [(aType, textJ (wordM u)), (if n.kind = 11 then aItems else aValues, X 0)] := by
    unfold nodeJ
    rw [if_neg (by omega), if_neg (by omega), if_neg (by omega), if_neg h13]
    rcases h1112 with h | h
    · have : u = 11 := by omega
      rw [if_pos h, if_pos h, this]
    · have : u = 12 := by omega
      rw [if_neg (by omega), if_pos h, if_neg (by omega), this]
   have hel : (rA JT.cells (kidsL n X (kidsN n).length))[0]? = some ((X 0).cells.map .c) := by
    rw [hkn]
    unfold kidsL
    rw [if_neg (by omega)]
    rfl
   have hle : 0 < (kidsN n).length := by rw [hkn]; simp
   have w1 := rwithO_told [(aType, textJ (wordM u))] (by simp) (if n.kind = 11 then aItems else aValues) (X 0)
   rw [List.singleton_append] at w1
   rw [hso, Bool.true_and, hnj]
   clear hnj
   generalize objJ [(aType, textJ (wordM u)), (if n.kind = 11 then aItems else aValues, X 0)] = j1 at *
   generalize objJ [(aType, textJ (wordM u))] = j0 at *
   generalize textJ (wordM u) = y at *
   generalize X 0 = x at *
   by_cases h11 : n.kind = 11
   · have b11 : (n.kind == 11) = true := by simpa using h11
     rw [if_pos h11] at w1
     simp only [JT.av_eq, str_aType, str_aItems] at hTx w0 w1
     refine walkBF (And.intro @ncells_mk b13) ?_
     refine walkC (hWd) ?_
     refine walkG ?_
     refine walkC (hTx) ?_
     refine walkG ?_
     refine walkCF (@pureL_c) (w0) ?_
     refine walkBF (And.intro @ncells_mk (And.intro b11 (And.intro @len_cells (And.intro @take_cells (And.intro @take_cellsC (And.intro @drop_cellsC (And.intro @rA_len (And.intro hkli (And.intro hel hle))))))))) ?_
     refine walkCF (@pureL_c) (w1) ?_
     refine walkBF (And.intro @len_cells (And.intro @take_cells (And.intro @take_cellsC @drop_cellsC))) ?_
     refine retXF (And.intro @len_cells @take_cellsC) Tryz.results53 ?_
     exact ⟨Frz.cs _ _, .c _, .c _⟩
   · have h12 : n.kind = 12 := by omega
     have b11 : (n.kind == 11) = false := by simpa using h11
     have b12 : (n.kind == 12) = true := by simpa using h12
     rw [if_neg h11] at w1
     simp only [JT.av_eq, str_aType, str_aValues] at hTx w0 w1
     refine walkBF (And.intro @ncells_mk b13) ?_
     refine walkC (hWd) ?_
     refine walkG ?_
     refine walkC (hTx) ?_
     refine walkG ?_
     refine walkCF (@pureL_c) (w0) ?_
     refine walkBF (And.intro @ncells_mk (And.intro b11 (And.intro b12 (And.intro @len_cells (And.intro @take_cells (And.intro @take_cellsC (And.intro @drop_cellsC (And.intro @rA_len (And.intro hkli (And.intro hel hle)))))))))) ?_
     refine walkCF (@pureL_c) (w1) ?_
     refine walkBF (And.intro @len_cells (And.intro @take_cells (And.intro @take_cellsC @drop_cellsC))) ?_
     refine retXF (And.intro @len_cells @take_cellsC) Tryz.results53 ?_
     exact ⟨Frz.cs _ _, .c _, .c _⟩
 have hkk : n.kind = 9 ∨ n.kind = 10 ∨ n.kind = 14 := by omega
 have hso : selfOk n = aliasOk n := by
  unfold selfOk
  rw [show namedK n.kind = true by rcases hkk with h | h | h <;> rw [h] <;> rfl]
  rfl
 have b11 : (n.kind == 11) = false := by simp; omega
 have b12 : (n.kind == 12) = false := by simp; omega
 have hal := hsm.2.2.1
 have hnj : nodeJ n X = (if n.kind = 9 then objJ (headO n ++ [(aFields, listJ (fieldsJ n.fields X n.fields.length))]) else if n.kind = 10 then objJ (putO (headO n ++ [(aSymbols, textsJ n.symbols)]) n.has aDefault (textJ n.dflt)) else objJ (headO n ++ [(aSize, .mk 3 n.size [] [] [])])) := by
  unfold nodeJ
  rcases hkk with h | h | h <;> rw [h] <;> rfl
 have hhl : (headO n).length ≤ 4 := by
  unfold headO
  have := (putO_len [(aType, textJ (wordM n.kind.toNat)), (aName, textJ (lastM n.name)), (aSpace, textJ (spaceM n.name))] (decide (0 < n.aliases.length)) aAliases (textsJ n.aliases)).2
  simpa using this
 rw [hso, hnj]
 clear hnj hso
 have hLa := rlast_told n.name (by have := hsm.1; omega)
 have hT2 := rtext17_told (lastM n.name)
 have hT3 := rtext17_told (spaceM n.name)
 have hA4 := rtexts17_told n.aliases hal.1
 obtain ⟨b4, hb4⟩ : ∃ b4, b4 = decide ((n.aliases.length : Int) > 0) := ⟨_, rfl⟩
 have hgt : decide (0 < n.aliases.length) = b4 := by rw [hb4, decide_eq_decide]; omega
 replace hb4 := hb4.symm
 have w1 := rwithO_told [(aType, textJ (wordM u))] (by simp) aName (textJ (lastM n.name))
 rw [List.singleton_append] at w1
 have w2 := rwithO_told [(aType, textJ (wordM u)), (aName, textJ (lastM n.name))] (by simp) aSpace (textJ (spaceM n.name))
 rw [List.cons_append, List.singleton_append] at w2
 have w3 := rwithO_told [(aType, textJ (wordM u)), (aName, textJ (lastM n.name)), (aSpace, textJ (spaceM n.name))] (by simp) aAliases (textsJ n.aliases)
 have hjh : objJ (headO n) = if b4 = true then objJ ([(aType, textJ (wordM u)), (aName, textJ (lastM n.name)), (aSpace, textJ (spaceM n.name))] ++ [(aAliases, textsJ n.aliases)]) else objJ [(aType, textJ (wordM u)), (aName, textJ (lastM n.name)), (aSpace, textJ (spaceM n.name))] := by
  unfold headO
  rw [hgt, show n.kind.toNat = u by omega]
  cases b4 <;> rfl
 have wF := rwithO_told (headO n) (by omega) aFields (listJ (kidsL n X (kidsN n).length))
 have wZ := rwithO_told (headO n) (by omega) aSize (.mk 3 n.size [] [] [])
 have wS := rwithO_told (headO n) (by omega) aSymbols (textsJ n.symbols)
 have wD := rwithO_told (headO n ++ [(aSymbols, textsJ n.symbols)]) (by simp; omega) aDefault (textJ n.dflt)
 generalize headO n = oh at *
 generalize objJ oh = jh at *
 generalize objJ ([(aType, textJ (wordM u)), (aName, textJ (lastM n.name)), (aSpace, textJ (spaceM n.name))] ++ [(aAliases, textsJ n.aliases)]) = j3a at *
 generalize objJ [(aType, textJ (wordM u)), (aName, textJ (lastM n.name)), (aSpace, textJ (spaceM n.name))] = j3 at *
 generalize objJ [(aType, textJ (wordM u)), (aName, textJ (lastM n.name))] = j2 at *
 generalize objJ [(aType, textJ (wordM u))] = j1 at *
 generalize textJ (wordM u) = y1 at *
 generalize textJ (lastM n.name) = y2 at *
 generalize textJ (spaceM n.name) = y3 at *
 generalize textsJ n.aliases = y4 at *
 obtain ⟨V, hV⟩ : ∃ V : Nat → Bool, V = fun i => oksM K (kidsN n).length && ((n.aliases.take i).all fun a => nameOk (spaceM n.name) a) := ⟨_, rfl⟩
 have hV0 : V 0 = oksM K (kidsN n).length := by rw [hV]; simp
 have hVn : ∀ (i : Nat) (a : List UInt8), n.aliases[i]? = some a → V (i + 1) = (V i && nameOk (spaceM n.name) a) := fun i a h => by
  rw [hV]
  simp only []
  rw [List.take_add_one, h]
  simp [Bool.and_assoc]
 have hVe : (aliasOk n && oksM K (kidsN n).length) = V n.aliases.length := by
  rw [hV]
  simp only []
  rw [List.take_length, Bool.and_comm]
  rfl
 rw [hVe]
 clear hV hVe
 simp only [JT.av_eq, str_aType, str_aName, str_aSpace, str_aAliases, str_aFields, str_aSize, str_aSymbols, str_aDefault] at hTx hT2 hT3 hA4 w0 w1 w2 w3 wF wZ wS wD
 refine walkBF (And.intro @ncells_mk b13) ?_
 refine walkC (hWd) ?_
 refine walkG ?_
 refine walkC (hTx) ?_
 refine walkG ?_
 refine walkCF (@pureL_c) (w0) ?_
 refine walkBF (And.intro @ncells_mk (And.intro b11 (And.intro b12 (And.intro @len_cells (And.intro @take_cells (And.intro @take_cellsC @drop_cellsC)))))) ?_
 refine walkC (hLa) ?_
 refine walkG ?_
 refine walkC (hT2) ?_
 refine walkG ?_
 refine walkCF (@pureL_c) (w1) ?_
 refine walkG ?_
 refine walkC (hT3) ?_
 refine walkG ?_
 refine walkCF (@pureL_c) (w2) ?_
 refine walkGF (And.intro @ncells_mk (And.intro @len_cells (And.intro @take_cells (And.intro @take_cellsC (And.intro @drop_cellsC hb4))))) ?_
 refine VC.meet [(2, .c (.v (.int .i64 (P (kidsN n).length : Int)))), (8, .ref 8 1 0 0), (11, .ref 72 1 0 0), (13, .c (.v (.string (str (spaceM n.name))))), (14, .c (.v (.bool (V n.aliases.length)))), (16, .ref 432 1 0 0), (23, .ref 904 1 0 0)]
  [(8, ⟨false, 36, 5, [[.c (.v (.int .i64 0)), .c (.v (.int .i64 0)), .c (.v (.string ⟨#[]⟩)), .c (.v (.slice none 0 0)), .c (.v (.slice none 0 0))]]⟩), (72, ⟨false, 33, 10, [n.cells.map .c]⟩), (432, ⟨false, 36, 5, [[.c (.v (.int .i64 5)), .c (.v (.int .i64 0)), .c (.v (.string ⟨#[]⟩)), .row 456 (kidsN n).length, .c (.v (.slice none 0 0))]]⟩), (456, ⟨true, 36, 5, rA JT.cells (kidsL n X (kidsN n).length)⟩), (904, ⟨false, 36, 5, [jh.cells.map .c]⟩)] 8000 ?_ ?_
 · cases b4 with
   | false =>
     rw [if_neg (by decide)] at hjh
     subst hjh
     have hz : n.aliases.length = 0 := by simp at hb4; simp [hb4]
     rw [hz, hV0]
     refine walkB ?_
     refine .normal ?_
     refine weakXF (And.intro @rA_len (And.intro @rA_sc (And.intro hkli (And.intro @ncells_mk (And.intro @len_cells @drop_cellsC))))) ?_
     exact Nat.le_refl _
   | true =>
     rw [if_pos rfl] at hjh
     subst hjh
     refine walkBF (And.intro @ncells_mk (And.intro @len_cells (And.intro @take_cells (And.intro @take_cellsC @drop_cellsC)))) ?_
     refine walkC (hA4) ?_
     refine walkG ?_
     refine walkCF (@pureL_c) (w3) ?_
     refine walkGF (And.intro @len_cells (And.intro @take_cells (And.intro @take_cellsC @drop_cellsC))) ?_
     refine VC.loop (ι := {i : Nat // i ≤ n.aliases.length}) (fun z => [(2, .c (.v (.int .i64 (P (kidsN n).length : Int)))), (8, .ref 8 1 0 0), (11, .ref 72 1 0 0), (13, .c (.v (.string (str (spaceM n.name))))), (14, .c (.v (.bool (V z.1)))), (16, .ref 432 1 0 0), (23, .ref 904 1 0 0), (24, .c (.v (.int .i64 (z.1 : Int))))])
      (fun z => [(8, ⟨false, 36, 5, [[.c (.v (.int .i64 0)), .c (.v (.int .i64 0)), .c (.v (.string ⟨#[]⟩)), .c (.v (.slice none 0 0)), .c (.v (.slice none 0 0))]]⟩), (72, ⟨false, 33, 10, [n.cells.map .c]⟩), (432, ⟨false, 36, 5, [[.c (.v (.int .i64 5)), .c (.v (.int .i64 0)), .c (.v (.string ⟨#[]⟩)), .row 456 (kidsN n).length, .c (.v (.slice none 0 0))]]⟩), (456, ⟨true, 36, 5, rA JT.cells (kidsL n X (kidsN n).length)⟩), (904, ⟨false, 36, 5, [jh.cells.map .c]⟩)]) 4000 (fun z => n.aliases.length - z.1) ⟨0, Nat.zero_le _⟩ ?_ ?_
     · refine weakXF (And.intro @rA_len (And.intro @rA_sc (And.intro hkli (And.intro @ncells_mk hV0)))) ?_
       exact Nat.le_refl _
     rintro ⟨i, hii⟩
     simp only []
     refine walkGF (@ncells_mk) ?_
     refine VC.cond (by rfl) (by trivial) (fun hc => ?_) (fun hc => ?_)
     · have hlt : i < n.aliases.length := by simp at hc; omega
       obtain ⟨b, hb⟩ : ∃ b, n.aliases[i]? = some b := ⟨n.aliases[i], List.getElem?_eq_getElem hlt⟩
       have hap : (n.aliases.map sPV)[i]? = some [.v (.string (str b))] := by rw [List.getElem?_map, hb]; rfl
       have hw : IntKind.i64.wrap ((i : Int) + 1) = (i : Int) + 1 := wrap64_id (by omega) (by omega)
       have hSb := rspace_told b (by have := hal.2 b (List.mem_of_getElem? hb); omega)
       have hVi := hVn i b hb
       have e1 := str_no (spaceM n.name)
       have e2 := str_no (spaceM b)
       unfold nameOk at hVi
       cases hvi : V i with
       | false =>
         rw [hvi, Bool.false_and] at hVi
         refine walkGF (hw) ?_
         refine .next ⟨i + 1, by omega⟩ ?_ (by simp only []; omega)
         refine weakXF (And.intro @rA_len (And.intro @rA_sc (And.intro hkli (And.intro @ncells_mk hVi)))) ?_
         exact ⟨cI (by omega), Nat.le_refl _⟩
       | true =>
         cases hse : (spaceM n.name).isEmpty with
         | true =>
           rw [hvi, hse, Bool.true_or, Bool.true_and] at hVi
           rw [hse] at e1
           refine walkGF (And.intro hw e1) ?_
           refine .next ⟨i + 1, by omega⟩ ?_ (by simp only []; omega)
           refine weakXF (And.intro @rA_len (And.intro @rA_sc (And.intro hkli (And.intro @ncells_mk hVi)))) ?_
           exact ⟨cI (by omega), Nat.le_refl _⟩
         | false =>
           rw [hvi, hse, Bool.false_or, Bool.true_and] at hVi
           rw [hse] at e1
           generalize (spaceM b).isEmpty = z at e2 hVi
           refine walkGF (And.intro hw (And.intro e1 (And.intro @ncells_mk hap))) ?_
           refine walkCF (e1) (hSb) ?_
           refine walkGF (And.intro hw (And.intro e1 e2)) ?_
           refine .next ⟨i + 1, by omega⟩ ?_ (by simp only []; omega)
           refine weakXF (And.intro @rA_len (And.intro @rA_sc (And.intro hkli (And.intro @ncells_mk hVi)))) ?_
           exact ⟨cI (by omega), Nat.le_refl _⟩
     have hie : i = n.aliases.length := by simp at hc; omega
     subst hie
     refine walkG ?_
     refine .normal ?_
     refine weakXF (And.intro @rA_len (And.intro @rA_sc (And.intro hkli (And.intro @ncells_mk (And.intro @len_cells @drop_cellsC))))) ?_
     exact Nat.le_refl _
 clear w0 w1 w2 w3 hTx hT2 hT3 hA4 hLa hWd hjh hb4 hgt
 by_cases h9 : n.kind = 9
 · have b9 : (n.kind == 9) = true := by simpa using h9
   rw [if_pos h9]
   have hkn : kidsL n X (kidsN n).length = fieldsJ n.fields X n.fields.length := by
    unfold kidsL kidsN
    rw [if_pos h9, if_pos h9, List.length_map]
   rw [hkn] at wF
   have hfl : (fieldsJ n.fields X n.fields.length).length = (kidsN n).length := by rw [← hkn]; exact hkli
   rw [hkn]
   refine VC.frz [456] [(2, .c (.v (.int .i64 (P (kidsN n).length : Int)))), (8, .ref 8 1 0 0), (11, .ref 72 1 0 0), (14, .c (.v (.bool (V n.aliases.length)))), (16, .ref 432 1 0 0), (23, .ref 904 1 0 0)]
    [(8, ⟨false, 36, 5, [[.c (.v (.int .i64 0)), .c (.v (.int .i64 0)), .c (.v (.string ⟨#[]⟩)), .c (.v (.slice none 0 0)), .c (.v (.slice none 0 0))]]⟩), (72, ⟨false, 33, 10, [n.cells.map .c]⟩), (432, ⟨false, 36, 5, [(listJ (fieldsJ n.fields X n.fields.length)).cells.map .c]⟩), (904, ⟨false, 36, 5, [jh.cells.map .c]⟩)] 9000 ?_ ?_
   · simp only [rA_sc, rA_len, hfl, ncells_mk, WeakF, used_is, sc_any, sc_c, sc_pp, sc_ref, sc_row, sc_agg, sc_fn, ScL, some_imp, List.forall_mem_map, go_sem, Int.reduceBEq, Int.reduceLE, Int.reduceLT, Int.reduceNeg, Nat.reduceAdd, Nat.reduceEqDiff, Nat.reduceLT, Nat.reduceLeDiff, Nat.reduceMul, Nat.reduceSub, reduceCtorEq, ↓reduceIte]
     rw [listJ, cells_mk]
     refine ⟨⟨.same _, .same _, .same _, .same _, .same _, .same _⟩, .same _, .same _, .one (.cons (.same _) (.cons (.same _) (.cons (.same _) (.cons (.row (B := ⟨true, 36, 5, rA JT.cells (fieldsJ n.fields X n.fields.length)⟩) (es := (fieldsJ n.fields X n.fields.length).map JT.cells) (by simp) rfl rfl ((rA_len _ _).trans hfl) (rA_pv _ _)) (.cons (.nil 1) .nil))))) (by simp [AV.cellish]), .same _⟩
   generalize listJ (fieldsJ n.fields X n.fields.length) = y at *
   generalize objJ (oh ++ [(aFields, y)]) = j5 at *
   refine walkBF (And.intro @ncells_mk (And.intro b9 (And.intro @len_cells (And.intro @take_cells (And.intro @take_cellsC @drop_cellsC))))) ?_
   refine walkCF (@pureL_c) (wF) ?_
   refine walkBF (And.intro @len_cells (And.intro @take_cells (And.intro @take_cellsC @drop_cellsC))) ?_
   refine retXF (And.intro @len_cells @take_cellsC) Tryz.results53 ?_
   exact ⟨Frz.cs _ _, .c _, .c _⟩
 have b9 : (n.kind == 9) = false := by simpa using h9
 rw [if_neg h9]
 by_cases h10 : n.kind = 10
 · have b14 : (n.kind == 14) = false := by simp; omega
   rw [if_pos h10]
   have hSy := rtexts17_told n.symbols hsm.2.2.2.1.1
   have hDf := rtext17_told n.dflt
   have hj : objJ (putO (oh ++ [(aSymbols, textsJ n.symbols)]) n.has aDefault (textJ n.dflt)) = if n.has = true then objJ (oh ++ [(aSymbols, textsJ n.symbols)] ++ [(aDefault, textJ n.dflt)]) else objJ (oh ++ [(aSymbols, textsJ n.symbols)]) := by cases n.has <;> rfl
   rw [hj]
   clear hj
   generalize objJ (oh ++ [(aSymbols, textsJ n.symbols)] ++ [(aDefault, textJ n.dflt)]) = j6 at *
   generalize objJ (oh ++ [(aSymbols, textsJ n.symbols)]) = j5 at *
   generalize textsJ n.symbols = x1 at *
   generalize textJ n.dflt = x2 at *
   simp only [JT.av_eq] at hSy hDf
   refine walkBF (And.intro @ncells_mk (And.intro b9 (And.intro b14 (And.intro @len_cells (And.intro @take_cells (And.intro @take_cellsC @drop_cellsC)))))) ?_
   refine walkC (hSy) ?_
   refine walkG ?_
   refine walkCF (@pureL_c) (wS) ?_
   refine walkGF (And.intro @ncells_mk (And.intro @len_cells (And.intro @take_cells (And.intro @take_cellsC @drop_cellsC)))) ?_
   cases hh : n.has with
   | true =>
     rw [if_pos rfl]
     refine walkBF (And.intro @ncells_mk (And.intro hh (And.intro @len_cells (And.intro @take_cells (And.intro @take_cellsC @drop_cellsC))))) ?_
     refine walkC (hDf) ?_
     refine walkG ?_
     refine walkCF (@pureL_c) (wD) ?_
     refine walkBF (And.intro @len_cells (And.intro @take_cells (And.intro @take_cellsC @drop_cellsC))) ?_
     refine retXF (And.intro @len_cells @take_cellsC) Tryz.results53 ?_
     exact ⟨Frz.cs _ _, .c _, .c _⟩
   | false =>
     rw [if_neg (by decide)]
     refine walkBF (And.intro @ncells_mk (And.intro hh (And.intro @len_cells (And.intro @take_cells (And.intro @take_cellsC @drop_cellsC))))) ?_
     refine retXF (And.intro @len_cells @take_cellsC) Tryz.results53 ?_
     exact ⟨Frz.cs _ _, .c _, .c _⟩
 · have b14 : (n.kind == 14) = true := by simp; omega
   rw [if_neg h10]
   have wY : Told Tryz.prog _ [_, _, .agg [.c (.v (.int .i64 3)), .c (.v (.int .i64 n.size)), .c (.v (.string ⟨#[]⟩)), .c (.v (.slice none 0 0)), .c (.v (.slice none 0 0))]] _ :=
    wZ.co (.cons (.same _) (.cons (.same _) (.cons (Co.aggL (.cons (.same _) (.cons (.same _) (.cons (.same _) (.cons (.nil 5) (.cons (.nil 1) .nil)))))) .nil)))
   clear wZ
   generalize objJ (oh ++ [(aSize, JT.mk 3 n.size [] [] [])]) = j5 at *
   refine walkBF (And.intro @ncells_mk (And.intro b9 (And.intro b14 (And.intro @len_cells (And.intro @take_cells (And.intro @take_cellsC @drop_cellsC)))))) ?_
   refine walkCF (@pureL_c) (wY) ?_
   refine walkBF (And.intro @len_cells (And.intro @take_cells (And.intro @take_cellsC @drop_cellsC))) ?_
   refine retXF (And.intro @len_cells @take_cellsC) Tryz.results53 ?_
   exact ⟨Frz.cs _ _, .c _, .c _⟩
section
open Go.RowKit Go.ChangeShapes Go.WideShapes Go.ChangeAt
inductive TyPV (P : Program) : TypeId → List PV → Prop
 | bool {t : TypeId} {b : Bool} (ht : P.underlying t = some .bool) : TyPV P t [.v (.bool b)]
 | int {t : TypeId} {k : IntKind} {n : Int} (ht : P.underlying t = some (.int k)) (hw : (Lit.int k n).wf = true) : TyPV P t [.v (.int k n)]
 | str {t : TypeId} {s : ByteArray} (ht : P.underlying t = some .string) (hs : s.size ≤ maxLen) : TyPV P t [.v (.string s)]
 | sl {t e : TypeId} {es : List (List PV)} (ht : P.underlying t = some (.slice e)) (hx : ∀ q ∈ es, TyPV P e q) : TyPV P t [.sl (P.cellsOf e) es]
 | struct {t : TypeId} {fs : Array Field} {ps : List PV} (ht : P.underlying t = some (.struct fs)) (hl : ps.length = P.cellsOf t)
   (hx : ∀ (i : Nat) (f : Field), fs[i]? = some f → TyPV P f.type ((ps.drop f.offset).take (P.cellsOf f.type))) : TyPV P t ps
def tiles (P : Program) : List Field → Nat → Nat → Bool
 | [], o, n => o == n
 | f :: fs, o, n => f.offset == o && tiles P fs (o + P.cellsOf f.type) n
def plainB (P : Program) (l : List TypeId) : Bool := l.all fun t => match P.underlying t with
 | some .bool => P.cellsOf t == 1 | some (.int _) => P.cellsOf t == 1 | some .string => P.cellsOf t == 1
 | some (.slice e) => l.contains e && decide (0 < P.cellsOf e) && (P.cellsOf t == 1)
 | some (.struct fs) => tiles P fs.toList 0 (P.cellsOf t) && fs.toList.all fun f => l.contains f.type
 | _ => false
theorem list_of {α : Type} {p : Nat → α → Prop} : ∀ (n : Nat), (∀ i, i < n → ∃ y, p i y) → ∃ l : List α, l.length = n ∧ ∀ (i : Nat) (y : α), l[i]? = some y → p i y
 | 0, _ => ⟨[], rfl, fun i y h => by simp at h⟩
 | n + 1, h => by
   obtain ⟨l, h1, h2⟩ := list_of n fun i hi => h i (by omega)
   obtain ⟨y, hy⟩ := h n (by omega)
   refine ⟨l ++ [y], by simp [h1], fun i z hz => ?_⟩
   by_cases hi : i < l.length
   · rw [List.getElem?_append_left hi] at hz
     exact h2 i z hz
   · rw [List.getElem?_append_right (by omega)] at hz
     cases hj : i - l.length with
     | zero =>
       rw [hj] at hz
       simp at hz
       subst hz
       rw [show i = n by omega]
       exact hy
     | succ j => rw [hj] at hz; simp at hz
section
variable {P : Program} {w : World}
theorem PRepL.cons_app {ro : Nat → Prop} {p q : List PV} {v u : List Value} (h : PRepL w ro p v) (h' : PRepL w ro q u) : PRepL w ro (p ++ q) (v ++ u) := by
 refine ⟨by simp [h.1, h'.1], fun j x y h1 h2 => ?_⟩
 by_cases hj : j < p.length
 · rw [List.getElem?_append_left hj] at h1
   rw [List.getElem?_append_left (by rw [h.1]; exact hj)] at h2
   exact h.2 j x y h1 h2
 · rw [List.getElem?_append_right (by omega)] at h1
   rw [List.getElem?_append_right (by rw [h.1]; omega), h.1] at h2
   exact h'.2 _ x y h1 h2
theorem tile_rep {ro : Nat → Prop} {cs : List Value} {n : Nat} (hn : cs.length = n) : ∀ (fs : List Field) (o : Nat), o ≤ n → tiles P fs o n = true →
  (∀ f ∈ fs, ∃ q, PRepL w ro q ((cs.drop f.offset).take (P.cellsOf f.type)) ∧ q.length = P.cellsOf f.type ∧ TyPV P f.type q) →
  ∃ ps, PRepL w ro ps (cs.drop o) ∧ ps.length = n - o ∧ ∀ (i : Nat) (f : Field), fs[i]? = some f → o ≤ f.offset ∧ TyPV P f.type ((ps.drop (f.offset - o)).take (P.cellsOf f.type)) := by
 intro fs
 induction fs with
 | nil =>
   intro o ho ht _
   simp [tiles] at ht
   subst ht
   exact ⟨[], ⟨by simp [← hn], by simp⟩, by simp, by simp⟩
 | cons f fs ih =>
   intro o ho ht hf
   simp only [tiles, Bool.and_eq_true, beq_iff_eq] at ht
   obtain ⟨h1, h2⟩ := ht
   obtain ⟨q, hq1, hq2, hq3⟩ := hf f (by simp)
   have hle : o + P.cellsOf f.type ≤ n := by
    have := hq1.1
    rw [hq2, List.length_take, List.length_drop, h1, hn] at this
    omega
   obtain ⟨ps, hp1, hp2, hp3⟩ := ih _ hle h2 fun g hg => hf g (by simp [hg])
   have hsp : cs.drop o = (cs.drop o).take (P.cellsOf f.type) ++ cs.drop (o + P.cellsOf f.type) := by
    rw [← List.drop_drop, List.take_append_drop]
   refine ⟨q ++ ps, ?_, by simp [hq2, hp2]; omega, fun i g hg => ?_⟩
   · rw [hsp]
     rw [h1] at hq1
     exact hq1.cons_app hp1
   · cases i with
     | zero =>
       simp at hg
       subst hg
       refine ⟨by omega, ?_⟩
       rw [h1, Nat.sub_self, List.drop_zero, ← hq2, List.take_left]
       exact hq3
     | succ i =>
       simp at hg
       obtain ⟨h3, h4⟩ := hp3 i g hg
       refine ⟨by omega, ?_⟩
       rw [show g.offset - o = q.length + (g.offset - (o + P.cellsOf f.type)) by omega, List.drop_append, List.drop_of_length_le (by omega), List.nil_append, Nat.add_sub_cancel_left]
       exact h4
variable {H : Type} {enc : TypeId × Value → H} {sp : Nat → Bool} {held : Bool}
theorem lit_prep {W : World} {ro : Nat → Prop} {v : Value} (hv : v.oneCell' = true) : PRepL W ro [.v v] [v] := ⟨rfl, fun j p u h1 h2 => by
 cases j with
 | zero => simp at h1 h2; subst h1 h2; exact .v hv
 | succ j => simp at h1⟩
theorem open_pv {l : List TypeId} (hl : plainB P l = true) : ∀ (fuel : Nat) (t : TypeId) (cs : List Value) (x : DataW H × List MemPlace), t ∈ l → DataW.trod enc P w 0 sp held fuel t cs = some x →
  ∃ ps, PRepL w (fun b => b < w.heap.size) ps cs ∧ ps.length = P.cellsOf t ∧ TyPV P t ps := by
 intro fuel
 induction fuel using Nat.strongRecOn with
 | ind fuel ih =>
 intro t cs x ht h
 have hk := List.all_eq_true.1 hl t ht
 split at hk
 · rename_i hu
   obtain ⟨b, rfl, _⟩ := DataW.trod_bool hu h
   exact ⟨_, lit_prep rfl, (by simpa using hk : P.cellsOf t = 1).symm, .bool hu⟩
 · rename_i k hu
   obtain ⟨n, rfl, _, hw⟩ := DataW.trod_int hu h
   exact ⟨_, lit_prep rfl, (by simpa using hk : P.cellsOf t = 1).symm, .int hu hw⟩
 · rename_i hu
   obtain ⟨s, rfl, _, hs⟩ := DataW.trod_string hu h
   exact ⟨_, lit_prep rfl, (by simpa using hk : P.cellsOf t = 1).symm, .str hu hs⟩
 · rename_i e hu
   simp only [Bool.and_eq_true, List.contains_iff_mem, decide_eq_true_eq, beq_iff_eq] at hk
   obtain ⟨⟨he, hz⟩, hone⟩ := hk
   rcases DataW.trod_slice hu h with ⟨rfl, _⟩ | ⟨a, len, cap, elems, rest, n, rfl, rfl, _, hb, h1, h2, h3, h4, _, _⟩
   · exact ⟨[.sl (P.cellsOf e) []], ⟨rfl, fun j p u g1 g2 => by
      cases j with
      | zero => simp at g1 g2; subst g1 g2; exact PRep.nil _ _ _
      | succ j => simp at g1⟩, hone.symm, .sl hu (by simp)⟩
   · have hex : ∀ i, i < len → ∃ y : List Value × List PV, w.cells? 0 (a.add (i * P.cellsOf e)) (P.cellsOf e) = some y.1 ∧ PRepL w (fun b => b < w.heap.size) y.2 y.1 ∧ y.2.length = P.cellsOf e ∧ TyPV P e y.2 := by
      intro i hi
      have h5 := h4 i hi
      rw [List.getElem?_eq_getElem (show i < elems.length by omega), Option.bind_eq_some_iff] at h5
      obtain ⟨vs, h6, h7⟩ := h5
      obtain ⟨q, h8, h9, h10⟩ := ih n (by omega) e vs _ he h7
      exact ⟨(vs, q), h6, h8, h9, h10⟩
     obtain ⟨L, hL, hLx⟩ := list_of len hex
     have hcell : ∀ (i : Nat) (y : List Value × List PV), L[i]? = some y → y.1.length = P.cellsOf e ∧ ∀ j, j < P.cellsOf e → w.cell? ((a.add (i * P.cellsOf e)).add j) = y.1[j]? := fun i y hy => (World.cells?_some (hLx i y hy).1).2
     have hlen : len = (L.map (·.2)).length := by simp [hL]
     refine ⟨[.sl (P.cellsOf e) (L.map (·.2))], ⟨rfl, fun j p u g1 g2 => ?_⟩, hone.symm, .sl hu fun q hq => ?_⟩
     · cases j with
       | succ j => simp at g1
       | zero =>
       simp at g1 g2
       subst g1 g2
       rw [hlen]
       refine .sl (vss := L.map (·.1)) (by omega) (by unfold maxLen at h2; omega) (fun hn => by simp at hn) (fun hne => ?_) (by simp) (fun i q hq => ?_) (fun i vs hvs => ?_) (fun i j q vs p u hq hvs hp hv => ?_)
       · have hpos : 0 < L.length := List.length_pos_iff.2 (by intro e; apply hne; simp [e])
         obtain ⟨y0, hy0⟩ : ∃ y, L[0]? = some y := ⟨L[0], List.getElem?_eq_getElem hpos⟩
         obtain ⟨c1, c2⟩ := hcell 0 y0 hy0
         have c3 := c2 0 hz
         rw [List.getElem?_eq_getElem (show 0 < y0.1.length by omega)] at c3
         simp only [Nat.zero_mul] at c3
         have hspot := World.cell?_spot c3
         have hlt : a.block < w.heap.size := by
          unfold World.cell? at c3
          have : (a.add 0).add 0 = a := by simp [Addr.add]
          rw [this] at c3
          split at c3
          · rename_i hh
            exact (Array.getElem?_eq_some_iff.1 hh).1
          · simp at c3
         have ha : a = ⟨a.block, a.off, none⟩ := by
          cases a
          simp [Addr.add] at hspot
          simp [hspot]
         refine ⟨a.block, a.off, by rw [← ha], hlt, fun i vs hvs j hj => ?_⟩
         rw [List.getElem?_map] at hvs
         cases hq : L[i]? with
         | none => rw [hq] at hvs; simp at hvs
         | some y =>
           rw [hq] at hvs
           obtain rfl := Option.some.inj hvs
           obtain ⟨d1, d2⟩ := hcell i y hq
           have hj' : j < y.1.length := hj
           rw [← d2 j (by omega), ha, addr_add, addr_add]
       · rw [List.getElem?_map] at hq
         cases hy : L[i]? with
         | none => rw [hy] at hq; simp at hq
         | some y =>
           rw [hy] at hq
           obtain rfl := Option.some.inj hq
           exact (hLx i y hy).2.2.1
       · rw [List.getElem?_map] at hvs
         cases hy : L[i]? with
         | none => rw [hy] at hvs; simp at hvs
         | some y =>
           rw [hy] at hvs
           obtain rfl := Option.some.inj hvs
           exact (hcell i y hy).1
       · rw [List.getElem?_map] at hq hvs
         cases hy : L[i]? with
         | none => rw [hy] at hq; simp at hq
         | some y =>
           rw [hy] at hq hvs
           obtain rfl := Option.some.inj hq
           obtain rfl := Option.some.inj hvs
           exact (hLx i y hy).2.1.2 j p u hp hv
     · obtain ⟨y, hy, rfl⟩ := List.mem_map.1 hq
       obtain ⟨i, hi⟩ := List.mem_iff_getElem?.1 hy
       exact (hLx i y hi).2.2.2
 · rename_i fs hu
   simp only [Bool.and_eq_true] at hk
   obtain ⟨htl, hin⟩ := hk
   obtain ⟨xs, n, rfl, _, h1, h2, h3⟩ := DataW.trod_struct hu h
   obtain ⟨ps, hp1, hp2, hp3⟩ := tile_rep (P := P) (w := w) (ro := fun b => b < w.heap.size) (cs := cs) h1 fs.toList 0 (Nat.zero_le _) htl fun f hf => by
    obtain ⟨i, hi⟩ := List.mem_iff_getElem?.1 hf
    have hi' : fs[i]? = some f := by simpa using hi
    have hlt := (Array.getElem?_eq_some_iff.1 hi').1
    have h4 := h3 i f hi'
    rw [List.getElem?_eq_getElem (show i < xs.length by omega)] at h4
    have hm : f.type ∈ l := by simpa using List.all_eq_true.1 hin f hf
    obtain ⟨q, h5, h6, h7⟩ := ih n (by omega) f.type _ _ hm h4
    exact ⟨q, h5, h6, h7⟩
   refine ⟨ps, by simpa using hp1, by rw [hp2]; simp, .struct hu (by rw [hp2]; simp) fun i f hf => ?_⟩
   simpa using (hp3 i f (by simpa using hf)).2
 · simp at hk
def TyAV (P : Program) (t : TypeId) (x : AV) : Prop := ∃ ps, TyPV P t ps ∧ (((∃ fs, P.underlying t = some (.struct fs)) ∧ x = .agg (ps.map .c)) ∨ ((∀ fs, P.underlying t ≠ some (.struct fs)) ∧ ∃ q, ps = [q] ∧ x = .c q))
theorem prepL_rep {W : World} {ro : Nat → Prop} {φ : Nat → Value} {h : Nat → Option Blkd} {ps : List PV} {cs : List Value} (hp : PRepL W ro ps cs) : Rep W ro φ h (.agg (ps.map .c)) (.agg cs.toArray) := by
 refine .agg (by simp [hp.1]) fun j x v h1 h2 => ?_
 rw [List.getElem?_map] at h1
 cases hq : ps[j]? with
 | none => rw [hq] at h1; simp at h1
 | some p =>
   rw [hq] at h1
   obtain rfl := Option.some.inj h1
   exact .c (hp.2 j p v hq h2)
theorem prepL_one {W : World} {ro : Nat → Prop} {φ : Nat → Value} {h : Nat → Option Blkd} {ps : List PV} {v : Value} (hp : PRepL W ro ps [v]) : ∃ q, ps = [q] ∧ Rep W ro φ h (.c q) v := by
 have := hp.1
 match ps, this with
 | [q], _ => exact ⟨q, rfl, .c (hp.2 0 q v rfl rfl)⟩
theorem open_arg {l : List TypeId} (hl : plainB P l = true) {t : TypeId} (ht : t ∈ l) {r : Reach} {base : Nat} {v : Value} {d : DataW H} {p : List MemPlace} (hval : Value.okWide P w r base t v) (h : DataW.Trod enc P w 0 sp held t v d p) :
  ∃ x, TyAV P t x ∧ Rep w (fun b => b < w.heap.size) φ0 h0 x v := by
 obtain ⟨fuel, hf⟩ := h
 obtain ⟨ps, h1, _, h3⟩ := open_pv hl fuel t _ _ ht hf
 have hk := List.all_eq_true.1 hl t ht
 have key : (∀ fs, P.underlying t ≠ some (.struct fs)) → v.cells.toList = [v] → ∃ x, TyAV P t x ∧ Rep w (fun b => b < w.heap.size) φ0 h0 x v := by
  intro hn hc
  rw [hc] at h1
  obtain ⟨q, rfl, hr⟩ := prepL_one (φ := φ0) (h := h0) h1
  exact ⟨_, ⟨_, h3, .inr ⟨hn, q, rfl, rfl⟩⟩, hr⟩
 split at hk
 · rename_i hu
   obtain ⟨b, rfl⟩ := okWide_bool hu hval
   exact key (by simp [hu]) rfl
 · rename_i k hu
   obtain ⟨n, rfl⟩ := okWide_int hu hval
   exact key (by simp [hu]) rfl
 · rename_i hu
   obtain ⟨s, rfl⟩ := okWide_string hu hval
   exact key (by simp [hu]) rfl
 · rename_i e hu
   obtain ⟨a, len, cap, rfl⟩ := okWide_slice hu hval
   exact key (by simp [hu]) rfl
 · rename_i fs hu
   obtain ⟨cs, rfl, _⟩ := okWide_struct hu hval
   exact ⟨_, ⟨_, h3, .inl ⟨⟨fs, hu⟩, rfl⟩⟩, by simpa [Value.cells] using prepL_rep h1⟩
 · simp at hk
theorem reps_nil {W : World} {ro : Nat → Prop} {φ : Nat → Value} {h : Nat → Option Blkd} : ∀ (j : Nat) (x : AV) (v : Value), ([] : List AV)[j]? = some x → ([] : List Value)[j]? = some v → Rep W ro φ h x v := fun j x v h1 => by simp at h1
theorem reps_cons {W : World} {ro : Nat → Prop} {φ : Nat → Value} {h : Nat → Option Blkd} {y : AV} {u : Value} {l : List AV} {vs : List Value} (hy : Rep W ro φ h y u) (hs : ∀ (j : Nat) (x : AV) (v : Value), l[j]? = some x → vs[j]? = some v → Rep W ro φ h x v) :
  ∀ (j : Nat) (x : AV) (v : Value), (y :: l)[j]? = some x → (u :: vs)[j]? = some v → Rep W ro φ h x v := fun j x v h1 h2 => by
 cases j with
 | zero => simp at h1 h2; subst h1 h2; exact hy
 | succ j => exact hs j x v (by simpa using h1) (by simpa using h2)
end
end
section

section
variable {P : Program}
theorem ty_int {t : TypeId} {k : IntKind} {ps : List PV} (h : TyPV P t ps) (hu : P.underlying t = some (.int k)) : ∃ n, ps = [.v (.int k n)] ∧ (Lit.int k n).wf = true := by
 cases h with
 | int ht hw => obtain rfl := TypeDesc.int.inj (Option.some.inj (ht.symm.trans hu)); exact ⟨_, rfl, hw⟩
 | bool ht => simp [ht] at hu
 | str ht hs => simp [ht] at hu
 | sl ht hx => simp [ht] at hu
 | struct ht hl hx => simp [ht] at hu
theorem ty_bool {t : TypeId} {ps : List PV} (h : TyPV P t ps) (hu : P.underlying t = some .bool) : ∃ b, ps = [.v (.bool b)] := by
 cases h with
 | bool ht => exact ⟨_, rfl⟩
 | int ht hw => simp [ht] at hu
 | str ht hs => simp [ht] at hu
 | sl ht hx => simp [ht] at hu
 | struct ht hl hx => simp [ht] at hu
theorem ty_str {t : TypeId} {ps : List PV} (h : TyPV P t ps) (hu : P.underlying t = some .string) : ∃ s : List UInt8, ps = [.v (.string (str s))] ∧ s.length ≤ maxLen := by
 cases h with
 | @str _ s ht hs => exact ⟨s.data.toList, by rw [str_of], by rw [← str_size, str_of]; exact hs⟩
 | bool ht => simp [ht] at hu
 | int ht hw => simp [ht] at hu
 | sl ht hx => simp [ht] at hu
 | struct ht hl hx => simp [ht] at hu
theorem ty_sl {t e : TypeId} {ps : List PV} (h : TyPV P t ps) (hu : P.underlying t = some (.slice e)) : ∃ es, ps = [.sl (P.cellsOf e) es] ∧ ∀ q ∈ es, TyPV P e q := by
 cases h with
 | sl ht hx => obtain rfl := TypeDesc.slice.inj (Option.some.inj (ht.symm.trans hu)); exact ⟨_, rfl, hx⟩
 | bool ht => simp [ht] at hu
 | int ht hw => simp [ht] at hu
 | str ht hs => simp [ht] at hu
 | struct ht hl hx => simp [ht] at hu
theorem list_map {α β : Type} {f : α → β} : ∀ {l : List β}, (∀ y ∈ l, ∃ x, y = f x) → ∃ m : List α, l = m.map f
 | [], _ => ⟨[], rfl⟩
 | y :: l, h => by
   obtain ⟨x, rfl⟩ := h y (by simp)
   obtain ⟨m, rfl⟩ := list_map (l := l) fun z hz => h z (by simp [hz])
   exact ⟨x :: m, rfl⟩
theorem list_mapP {α β : Type} {f : α → β} {p : α → Prop} : ∀ {l : List β}, (∀ y ∈ l, ∃ x, p x ∧ y = f x) → ∃ m : List α, (∀ x ∈ m, p x) ∧ l = m.map f
 | [], _ => ⟨[], by simp, rfl⟩
 | y :: l, h => by
   obtain ⟨x, hx, rfl⟩ := h y (by simp)
   obtain ⟨m, hm, rfl⟩ := list_mapP (l := l) fun z hz => h z (by simp [hz])
   exact ⟨x :: m, fun z hz => by rcases List.mem_cons.1 hz with rfl | hz; exact hx; exact hm z hz, rfl⟩
theorem wf64 {n : Int} (h : (Lit.int .i64 n).wf = true) : -9223372036854775808 ≤ n ∧ n ≤ 9223372036854775807 := by
 simp [Lit.wf, IntKind.min, IntKind.max, IntKind.signed, IntKind.bits] at h
 omega
theorem split5 {α : Type} {l : List α} (h : l.length = 5) : ∃ a b c d e, l = [a, b, c, d, e] := by
 match l, h with
 | [a, b, c, d, e], _ => exact ⟨a, b, c, d, e, rfl⟩
end
theorem fld_of {P : Program} {t : TypeId} {T : TyA} {fs : Array Field} (hT : tyA P t = some T) (hu : P.underlying t = some (.struct fs)) {i o : Nat} {t' : TypeId} (h : T.flds[i]? = some (o, t')) : ∃ f, fs[i]? = some f ∧ f.offset = o ∧ f.type = t' := by
 obtain ⟨d, ii, h1, _, rfl⟩ := tyA_some hT
 obtain rfl := Option.some.inj (hu.symm.trans h1)
 simp only [descFlds, List.getElem?_map] at h
 cases hq : fs.toList[i]? with
 | none => rw [hq] at h; simp at h
 | some f =>
   rw [hq] at h
   simp at h
   exact ⟨f, by simpa using hq, h.1, h.2⟩
theorem cells_of {P : Program} {t : TypeId} {T : TyA} (hT : tyA P t = some T) : P.cellsOf t = T.size := by
 obtain ⟨d, ii, _, h2, rfl⟩ := tyA_some hT
 simp [Program.cellsOf, h2]
theorem ty_strs {ps : List PV} (h : TyPV Tryz.prog 29 ps) : ∃ ks : List (List UInt8), ps = [.sl 1 (ks.map sPV)] := by
 obtain ⟨es, rfl, hx⟩ := ty_sl h Tryz.underlying29
 rw [cells_of tyA_9]
 obtain ⟨ks, rfl⟩ := list_map (f := sPV) fun q hq => by
  obtain ⟨s, rfl, _⟩ := ty_str (hx q hq) Tryz.underlying9
  exact ⟨s, rfl⟩
 exact ⟨ks, rfl⟩
theorem ty_fields {P : Program} {t : TypeId} {T : TyA} {ps : List PV} (h : TyPV P t ps) (hT : tyA P t = some T) (hk : T.kind = 3) :
  ps.length = T.size ∧ ∀ (i o : Nat) (t' : TypeId), T.flds[i]? = some (o, t') → ∀ T', tyA P t' = some T' → TyPV P t' ((ps.drop o).take T'.size) := by
 obtain ⟨d, ii, h1, h2, h3⟩ := tyA_some hT
 obtain ⟨fs, rfl⟩ := kind_struct (d := d) (by rw [h3] at hk; exact hk)
 cases h with
 | struct ht hlen hx =>
   obtain rfl := TypeDesc.struct.inj (Option.some.inj (ht.symm.trans h1))
   refine ⟨by rw [← cells_of hT]; exact hlen, fun i o t' h T' hT' => ?_⟩
   obtain ⟨f, hf, rfl, rfl⟩ := fld_of hT h1 h
   rw [← cells_of hT']
   exact hx i f hf
 | bool ht => simp [ht] at h1
 | int ht hw => simp [ht] at h1
 | str ht hs => simp [ht] at h1
 | sl ht hx => simp [ht] at h1
theorem ty_json : ∀ {t : TypeId} {ps : List PV}, TyPV Tryz.prog t ps → (t = 36 → ∃ j : JT, j.inr ∧ ps = j.cells) ∧ (t = 34 → ∃ xs : List JT, JT.inrL xs ∧ ps = [.sl 5 (xs.map JT.cells)]) := by
 intro t ps h
 induction h with
 | bool ht => exact ⟨fun e => by subst e; simp [Tryz.underlying36] at ht, fun e => by subst e; simp [Tryz.underlying34] at ht⟩
 | int ht hw => exact ⟨fun e => by subst e; simp [Tryz.underlying36] at ht, fun e => by subst e; simp [Tryz.underlying34] at ht⟩
 | str ht hs => exact ⟨fun e => by subst e; simp [Tryz.underlying36] at ht, fun e => by subst e; simp [Tryz.underlying34] at ht⟩
 | @sl t e es ht hx ih =>
   refine ⟨fun e => by subst e; simp [Tryz.underlying36] at ht, fun e => ?_⟩
   subst e
   obtain rfl := TypeDesc.slice.inj (Option.some.inj (ht.symm.trans Tryz.underlying34))
   obtain ⟨xs, hxs, rfl⟩ := list_mapP (f := JT.cells) (p := JT.inr) fun q hq => (ih q hq).1 rfl
   exact ⟨xs, inrL_of hxs, by rw [cells_of tyA_36]⟩
 | @struct t fs ps ht hl hx ih =>
   refine ⟨fun e => ?_, fun e => by subst e; simp [Tryz.underlying34] at ht⟩
   subst e
   have hT := tyA_36
   obtain ⟨a0, a1, a2, a3, a4, rfl⟩ := split5 (hl.trans (cells_of hT))
   obtain ⟨_, hf⟩ := ty_fields (.struct ht hl hx) hT rfl
   obtain ⟨k, h0, _⟩ := ty_int (hf 0 _ _ rfl _ tyA_3) Tryz.underlying3
   obtain ⟨n, h1, hw⟩ := ty_int (hf 1 _ _ rfl _ tyA_2) Tryz.underlying2
   obtain ⟨s, h2, _⟩ := ty_str (hf 2 _ _ rfl _ tyA_9) Tryz.underlying9
   obtain ⟨ks, h4⟩ := ty_strs (hf 4 _ _ rfl _ tyA_29)
   obtain ⟨f, g1, g2, g3⟩ := fld_of hT ht (i := 3) rfl
   obtain ⟨xs, hxs, h3⟩ := (ih 3 f g1).2 g3
   rw [g2, g3, cells_of tyA_34] at h3
   simp at h0 h1 h2 h3 h4
   subst h0 h1 h2 h3 h4
   exact ⟨.mk k n s ks xs, ⟨wf64 hw, hxs⟩, (cells_mk _ _ _ _ _).symm⟩
end

theorem drop_cut {α : Type} (l : List α) (o k : Nat) : l.drop o = (l.drop o).take k ++ l.drop (o + k) := by rw [← List.drop_drop, List.take_append_drop]
theorem ty_ints {ps : List PV} (h : TyPV Tryz.prog 31 ps) : ∃ ns : List Int, ps = [.sl 1 (ns.map iPV)] := by
 obtain ⟨es, rfl, hx⟩ := ty_sl h Tryz.underlying31
 rw [cells_of tyA_3]
 obtain ⟨ns, rfl⟩ := list_map (f := iPV) fun q hq => by
  obtain ⟨n, rfl, _⟩ := ty_int (hx q hq) Tryz.underlying3
  exact ⟨n, rfl⟩
 exact ⟨ns, rfl⟩
theorem ty_field {ps : List PV} (h : TyPV Tryz.prog 38 ps) : ∃ f : FT, ps = f.cells := by
 obtain ⟨hl, hf⟩ := ty_fields h tyA_38 rfl
 obtain ⟨a, h0, _⟩ := ty_str (hf 0 _ _ rfl _ tyA_9) Tryz.underlying9
 obtain ⟨b, h1⟩ := ty_strs (hf 1 _ _ rfl _ tyA_29)
 obtain ⟨c, h2, _⟩ := ty_int (hf 2 _ _ rfl _ tyA_3) Tryz.underlying3
 obtain ⟨d, h3⟩ := ty_bool (hf 3 _ _ rfl _ tyA_4) Tryz.underlying4
 obtain ⟨e, _, h4⟩ := (ty_json (hf 4 _ _ rfl _ tyA_36)).1 rfl
 have e0 : ps = (ps.drop 0).take 1 ++ ps.drop 1 := drop_cut ps 0 1
 have e1 : ps.drop 1 = (ps.drop 1).take 1 ++ ps.drop 2 := drop_cut ps 1 1
 have e2 : ps.drop 2 = (ps.drop 2).take 1 ++ ps.drop 3 := drop_cut ps 2 1
 have e3 : ps.drop 3 = (ps.drop 3).take 1 ++ ps.drop 4 := drop_cut ps 3 1
 have e4 : ps.drop 4 = (ps.drop 4).take 5 := (List.take_of_length_le (by rw [List.length_drop, hl]; decide)).symm
 exact ⟨⟨a, b, c, d, e⟩, e0.trans (by rw [h0, e1, h1, e2, h2, e3, h3, e4, h4]; rfl)⟩
theorem ty_fieldsL {ps : List PV} (h : TyPV Tryz.prog 30 ps) : ∃ fs : List FT, ps = [.sl 9 (fs.map FT.cells)] := by
 obtain ⟨es, rfl, hx⟩ := ty_sl h Tryz.underlying30
 rw [cells_of tyA_38]
 obtain ⟨ns, rfl⟩ := list_map (f := FT.cells) fun q hq => ty_field (hx q hq)
 exact ⟨ns, rfl⟩
theorem ty_node {ps : List PV} (h : TyPV Tryz.prog 33 ps) : ∃ n : NT, ps = n.cells := by
 obtain ⟨hl, hf⟩ := ty_fields h tyA_33 rfl
 obtain ⟨a0, h0, _⟩ := ty_int (hf 0 _ _ rfl _ tyA_3) Tryz.underlying3
 obtain ⟨a1, h1, _⟩ := ty_str (hf 1 _ _ rfl _ tyA_9) Tryz.underlying9
 obtain ⟨a2, h2⟩ := ty_strs (hf 2 _ _ rfl _ tyA_29)
 obtain ⟨a3, h3⟩ := ty_fieldsL (hf 3 _ _ rfl _ tyA_30)
 obtain ⟨a4, h4⟩ := ty_strs (hf 4 _ _ rfl _ tyA_29)
 obtain ⟨a5, h5⟩ := ty_bool (hf 5 _ _ rfl _ tyA_4) Tryz.underlying4
 obtain ⟨a6, h6, _⟩ := ty_str (hf 6 _ _ rfl _ tyA_9) Tryz.underlying9
 obtain ⟨a7, h7, _⟩ := ty_int (hf 7 _ _ rfl _ tyA_3) Tryz.underlying3
 obtain ⟨a8, h8, _⟩ := ty_int (hf 8 _ _ rfl _ tyA_3) Tryz.underlying3
 obtain ⟨a9, h9⟩ := ty_ints (hf 9 _ _ rfl _ tyA_31)
 have e0 : ps = (ps.drop 0).take 1 ++ ps.drop 1 := drop_cut ps 0 1
 have e1 : ps.drop 1 = (ps.drop 1).take 1 ++ ps.drop 2 := drop_cut ps 1 1
 have e2 : ps.drop 2 = (ps.drop 2).take 1 ++ ps.drop 3 := drop_cut ps 2 1
 have e3 : ps.drop 3 = (ps.drop 3).take 1 ++ ps.drop 4 := drop_cut ps 3 1
 have e4 : ps.drop 4 = (ps.drop 4).take 1 ++ ps.drop 5 := drop_cut ps 4 1
 have e5 : ps.drop 5 = (ps.drop 5).take 1 ++ ps.drop 6 := drop_cut ps 5 1
 have e6 : ps.drop 6 = (ps.drop 6).take 1 ++ ps.drop 7 := drop_cut ps 6 1
 have e7 : ps.drop 7 = (ps.drop 7).take 1 ++ ps.drop 8 := drop_cut ps 7 1
 have e8 : ps.drop 8 = (ps.drop 8).take 1 ++ ps.drop 9 := drop_cut ps 8 1
 have e9 : ps.drop 9 = (ps.drop 9).take 1 := (List.take_of_length_le (by rw [List.length_drop, hl]; decide)).symm
 exact ⟨⟨a0, a1, a2, a3, a4, a5, a6, a7, a8, a9⟩, e0.trans (by rw [h0, e1, h1, e2, h2, e3, h3, e4, h4, e5, h5, e6, h6, e7, h7, e8, h8, e9, h9]; rfl)⟩
theorem arg_schema {x : AV} (h : TyAV Tryz.prog 24 x) : ∃ s : ST, x = s.av := by
 obtain ⟨ps, h1, h2⟩ := h
 obtain ⟨hl, hf⟩ := ty_fields h1 tyA_24 rfl
 obtain ⟨es, h3, hx⟩ := ty_sl (hf 0 _ _ rfl _ tyA_22) Tryz.underlying22
 rw [cells_of tyA_33] at h3
 obtain ⟨ns, rfl⟩ := list_map (f := NT.cells) fun q hq => ty_node (hx q hq)
 obtain ⟨r, h4, _⟩ := ty_int (hf 1 _ _ rfl _ tyA_3) Tryz.underlying3
 have e0 : ps = (ps.drop 0).take 1 ++ ps.drop 1 := drop_cut ps 0 1
 have e1 : ps.drop 1 = (ps.drop 1).take 1 := (List.take_of_length_le (by rw [List.length_drop, hl]; decide)).symm
 have hp : ps = (ST.mk ns r).cells := e0.trans (by rw [h3, e1, h4]; rfl)
 subst hp
 rcases h2 with ⟨_, rfl⟩ | ⟨h2, _⟩
 · exact ⟨_, rfl⟩
 · exact absurd Tryz.underlying24 (h2 _)

inductive VT where
 | mk (k : Int) (n : Int) (b : Int) (s : List UInt8) (xs : List VT) (ks : List (List UInt8))
mutual
def VT.cells : VT → List PV
 | .mk k n b s xs ks => [.v (.int .i64 k), .v (.int .i64 n), .v (.int .u64 b), .sl 1 (bytePV s), .sl 6 (VT.cellsL xs), .sl 1 (ks.map sPV)]
def VT.cellsL : List VT → List (List PV)
 | [] => []
 | x :: xs => x.cells :: VT.cellsL xs
end
def VT.av (v : VT) : AV := .agg (v.cells.map .c)
theorem VT.av_eq (v : VT) : v.av = .agg (v.cells.map .c) := rfl
mutual
def VT.sm (N : Nat) : VT → Prop
 | .mk k n b s xs ks => (0 ≤ b ∧ b < 18446744073709551616) ∧ s.length ≤ N ∧ ks.length ≤ N ∧ (∀ y ∈ ks, y.length ≤ N) ∧ xs.length ≤ N ∧ VT.smL N xs
def VT.smL (N : Nat) : List VT → Prop
 | [] => True
 | x :: xs => x.sm N ∧ VT.smL N xs
end
mutual
theorem vsm_le {N M : Nat} (h : N ≤ M) : ∀ v : VT, v.sm N → v.sm M
 | .mk k n b s xs ks => fun ⟨h0, h1, h2, h3, h4, h5⟩ => ⟨h0, by omega, by omega, fun y hy => Nat.le_trans (h3 y hy) h, by omega, vsmL_le h xs h5⟩
theorem vsmL_le {N M : Nat} (h : N ≤ M) : ∀ xs : List VT, VT.smL N xs → VT.smL M xs
 | [] => fun _ => trivial
 | x :: xs => fun ⟨h1, h2⟩ => ⟨vsm_le h x h1, vsmL_le h xs h2⟩
end
mutual
def VT.inr : VT → Prop
 | .mk k n b s xs ks => (0 ≤ b ∧ b < 18446744073709551616) ∧ VT.inrL xs
def VT.inrL : List VT → Prop
 | [] => True
 | x :: xs => x.inr ∧ VT.inrL xs
end
/-! Which values are ones of a node. -/
def VT.kind : VT → Int | .mk k _ _ _ _ _ => k
def VT.int : VT → Int | .mk _ n _ _ _ _ => n
def VT.items : VT → List VT | .mk _ _ _ _ xs _ => xs
def vbare (k n b : Int) (s : List UInt8) (m : Nat) (ks : List (List UInt8)) : Bool :=
 ((k == 2 || k == 3 || k == 4 || k == 10 || k == 13) || n == 0) && (((k == 5 || k == 6) || b == 0) && (((k == 7 || k == 8 || k == 14) || s.isEmpty) && (((k == 9 || k == 11 || k == 12 || k == 13) || m == 0) && (k == 12 || ks.isEmpty))))
def keyM (y : List UInt8) : Bool := decide (y.length ≤ 20000) && isRight y
def headM (nd : NT) (k n b : Int) (s : List UInt8) (m : Nat) (ks : List (List UInt8)) : Bool :=
 (k == nd.kind && (vbare k n b s m ks && decide (s.length ≤ 20000))) && (
  if k = 2 then n == 0 || n == 1 else if k = 3 then decide (-2147483648 ≤ n) && decide (n ≤ 2147483647) else if k = 5 then decide (b < 4294967296) else if k = 8 then isRight s
  else if k = 14 then (s.length : Int) == nd.size else if k = 10 then decide (0 ≤ n) && decide (n < (nd.symbols.length : Int)) else if k = 9 then m == nd.fields.length && decide (m ≤ 300)
  else if k = 12 then (ks.length == m && ks.all keyM) && decide (m ≤ 300) else if k = 11 then decide (m ≤ 300) else if k = 13 then decide (0 ≤ n) && (decide (n < (nd.branches.length : Int)) && m == 1) else true)
def typeAt (nd : NT) (i : Nat) : Int := match nd.fields[i]? with | some f => f.type | none => -1
def branchAt (nd : NT) (i : Int) : Int := match nd.branches[i.toNat]? with | some k => k | none => -1
def itemAt (nd : NT) (n : Int) (i : Nat) : Int := if nd.kind = 9 then typeAt nd i else if nd.kind = 13 then branchAt nd n else nd.items
mutual
def isM (ns : List NT) : Int → VT → Bool
 | a, .mk k n b s xs ks => match ns[a.toNat]? with | none => false | some nd => headM nd k n b s xs.length ks && eachM ns (itemAt nd n) xs
def eachM (ns : List NT) : (Nat → Int) → List VT → Bool
 | _, [] => true
 | f, x :: xs => isM ns (f 0) x && eachM ns (fun i => f (i + 1)) xs
end
mutual
def vdeep : VT → Nat
 | .mk k n b s xs ks => if k = 9 ∨ k = 11 ∨ k = 12 ∨ k = 13 then vdeeps 1 xs else 0
def vdeeps : Nat → List VT → Nat
 | n, [] => n
 | n, x :: xs => vdeeps (max n (1 + vdeep x)) xs
end

mutual
def vbulk (d : Nat) : VT → Nat
 | .mk k n w s xs ks => if 80 < d ∨ 2500 < s.length ∨ 2500 < xs.length ∨ 2500 < ks.length then 2501 else match bkeys5 (1 + s.length) ks with | none => 2501 | some n => vitems d n xs
def vitems (d : Nat) : Nat → List VT → Nat
 | n, [] => n
 | n, x :: xs => if n ≤ 2500 then vitems d (n + vbulk (d + 1) x) xs else n
end
mutual
theorem vbulk_le (d : Nat) : ∀ (t : VT), vbulk d t ≤ 5001 + 2501 * (81 - d)
 | .mk k n w s xs ks => by
   rw [vbulk]
   split
   · omega
   · rename_i h
     split
     · omega
     · rename_i m hm
       exact vitems_le d xs m (by have := bkeys5_le ks _ _ (by omega) hm; omega)
theorem vitems_le (d : Nat) : ∀ (xs : List VT) (n : Nat), n ≤ 5001 + 2501 * (81 - d) → vitems d n xs ≤ 5001 + 2501 * (81 - d)
 | [], n, h => by rw [vitems]; exact h
 | x :: xs, n, h => by
   rw [vitems]
   split
   · have := vbulk_le (d + 1) x
     by_cases hd : 80 < d
     · have h2 : vbulk (d + 1) x = 2501 := by
        cases x
        rw [vbulk, if_pos (by omega)]
       exact vitems_le d xs _ (by omega)
     · exact vitems_le d xs _ (by omega)
   · exact h
end
theorem vitems_ge (d : Nat) : ∀ (xs : List VT) (n : Nat), n ≤ vitems d n xs
 | [], n => by rw [vitems]; exact Nat.le_refl _
 | x :: xs, n => by
   rw [vitems]
   split
   · exact Nat.le_trans (Nat.le_add_right _ _) (vitems_ge d xs _)
   · exact Nat.le_refl _
mutual
theorem vbulk_deep (d : Nat) : ∀ (t : VT), vbulk d t ≤ 2500 → vdeep t + d ≤ 81
 | .mk k n w s xs ks => fun h => by
   rw [vbulk] at h
   split at h
   · omega
   · rename_i hd
     split at h
     · omega
     · rw [vdeep]
       split
       · exact vitems_deep d xs _ 1 (by omega) h
       · omega
theorem vitems_deep (d : Nat) : ∀ (xs : List VT) (n m : Nat), m + d ≤ 81 → vitems d n xs ≤ 2500 → vdeeps m xs + d ≤ 81
 | [], n, m, hm, h => by rw [vdeeps]; exact hm
 | x :: xs, n, m, hm, h => by
   rw [vitems] at h
   split at h
   · have h1 := vitems_ge d xs (n + vbulk (d + 1) x)
     have h2 := vbulk_deep (d + 1) x (by omega)
     rw [vdeeps]
     exact vitems_deep d xs _ _ (by omega) h
   · omega
end
mutual
theorem vbulk_sm (d : Nat) : ∀ v : VT, v.inr → vbulk d v ≤ 2500 → v.sm 2500
 | .mk k n w s xs ks => fun hr h => by
   rw [vbulk] at h
   split at h
   · omega
   · rename_i h1
     split at h
     · omega
     · rename_i m hm
       have h2 := vitems_ge d xs m
       obtain ⟨_, h3⟩ := bkeys5_len ks _ m hm (by omega)
       exact ⟨hr.1, by omega, by omega, h3, by omega, vitems_sm d m xs hr.2 h⟩
theorem vitems_sm (d n : Nat) : ∀ xs : List VT, VT.inrL xs → vitems d n xs ≤ 2500 → VT.smL 2500 xs
 | [] => fun _ _ => trivial
 | x :: xs => fun hr h => by
   rw [vitems] at h
   split at h
   · have := vitems_ge d xs (n + vbulk (d + 1) x)
     exact ⟨vbulk_sm (d + 1) x hr.1 (by omega), vitems_sm d _ xs hr.2 h⟩
   · omega
end

theorem fieldsB_deep : ∀ (l : List FT) (n m : Nat), fieldsB n l = some m → m ≤ 2500 → ∀ f ∈ l, tdeep f.dflt ≤ 61
 | [], n, m, e, h => by simp
 | f :: fs, n, m, e, h => by
   have hs := fieldsB_sm (f :: fs) n m e h
   rw [fieldsB] at e
   split at e
   · split at e
     · simp at e
     · have h3 := fieldsB_deep fs _ m e h
       have h4 := (fieldsB_sm fs _ m e h).1
       intro g hg
       rcases List.mem_cons.1 hg with rfl | hg
       · have := tbulk5_deep 0 g.dflt (by omega)
         omega
       · exact h3 g hg
   · obtain rfl := Option.some.inj e
     omega
theorem nodesB_deep : ∀ (l : List NT) (n : Nat), nodesB n l ≤ 2500 → ∀ x ∈ l, ∀ f ∈ x.fields, tdeep f.dflt ≤ 61
 | [], n, h => by simp
 | x :: xs, n, h => by
   rw [nodesB] at h
   split at h
   · split at h
     · omega
     · split at h
       · omega
       · rename_i m hm
         have h3 := nodesB_sm xs m h
         intro y hy
         rcases List.mem_cons.1 hy with rfl | hy
         · exact fieldsB_deep _ _ m hm (by omega)
         · exact nodesB_deep xs m h y hy
   · omega
theorem sbulk_deep {s : ST} (h : sbulk s ≤ 2500) : ∀ x ∈ s.nodes, ∀ f ∈ x.fields, tdeep f.dflt ≤ 1000 := by
 unfold sbulk at h
 split at h
 · omega
 · intro x hx f hf
   have := nodesB_deep _ _ h x hx f hf
   omega

def wks (ks : List (List UInt8)) : Nat := (ks.map fun y => 6 * y.length + 10).sum
mutual
def wt : JT → Nat
 | .mk k n s ks xs => 100 + 6 * s.length + wks ks + wtL xs
def wtL : List JT → Nat
 | [] => 0
 | x :: xs => wt x + wtL xs
end
theorem wks_at {ks : List (List UInt8)} {i : Nat} (h : i < ks.length) : wks (ks.drop i) = 6 * (ks[i]).length + 10 + wks (ks.drop (i + 1)) := by
 rw [List.drop_eq_getElem_cons h]
 unfold wks
 rw [List.map_cons, List.sum_cons]
mutual
theorem text_wt : ∀ t : JT, t.inr → (tText t).length + 50 ≤ wt t
 | .mk k n s ks xs => fun hi => by
   have hn := numb_len n hi.1.1 hi.1.2
   have hq := quote_len s
   have hN := kids_wt none [] 0 xs hi.2 (by simp)
   have hS := kids_wt (some ks) ks 0 xs hi.2 (by simp)
   rw [List.drop_zero] at hS
   simp only [List.drop_nil] at hN
   have e0 : wks [] = 0 := rfl
   rw [e0] at hN
   rw [tText, wt]
   repeat' split
   all_goals (try simp only [List.length_append, List.length_cons, List.length_nil])
   all_goals omega
theorem kids_wt (ko : Option (List (List UInt8))) (ks : List (List UInt8)) (i : Nat) : ∀ xs : List JT, JT.inrL xs → (ko = some ks ∨ (ko = none ∧ ks = [])) → (tKids ko i xs).length ≤ wtL xs + wks (ks.drop i)
 | [], _, _ => by rw [tKids]; simp
 | x :: xs, hi, hk => by
   have h2 := text_wt x hi.1
   have h3 := kids_wt ko ks (i + 1) xs hi.2 hk
   rw [tKids, wtL]
   have h4 : (tkey ko i).length + wks (ks.drop (i + 1)) ≤ wks (ks.drop i) + 3 := by
    rcases hk with rfl | ⟨rfl, rfl⟩
    · by_cases hl : i < ks.length
      · rw [wks_at hl]
        have := quote_len ks[i]
        simp only [tkey, List.getElem?_eq_getElem hl, Option.getD_some, List.length_append, List.length_cons, List.length_nil]
        omega
      · rw [List.drop_of_length_le (by omega), List.drop_of_length_le (by omega)]
        simp only [tkey, List.getElem?_eq_none (show ks.length ≤ i by omega), Option.getD_none]
        decide
    · simp [tkey]
   have h5 : (if 0 < i then ([44] : List UInt8) else []).length ≤ 1 := by split <;> simp
   simp only [List.length_append, List.length_cons]
   omega
end
theorem bkeys5_wt : ∀ (ys : List (List UInt8)) (n m : Nat), bkeys5 n ys = some m → m ≤ 2500 → wks ys + 10 * n ≤ 10 * m
 | [], n, m, h, hm => by rw [bkeys5] at h; obtain rfl := Option.some.inj h; simp [wks]
 | y :: ys, n, m, h, hm => by
   rw [bkeys5] at h
   split at h
   · split at h
     · simp at h
     · have h1 := bkeys5_wt ys _ m h hm
       unfold wks at h1 ⊢
       rw [List.map_cons, List.sum_cons]
       omega
   · obtain rfl := Option.some.inj h
     omega
mutual
theorem wt_bulk (d : Nat) : ∀ t : JT, tbulk5 d t ≤ 2500 → wt t ≤ 120 * tbulk5 d t
 | .mk k n s ks xs => fun h => by
   rw [tbulk5] at h ⊢
   split at h
   · omega
   · rename_i h1
     rw [if_neg h1]
     split at h
     · omega
     · rename_i m hm
       have h2 := bitems5_ge d xs m
       have h3 := bkeys5_wt ks _ m hm (by omega)
       have h4 := wtL_bulk d m xs h
       rw [wt]
       omega
theorem wtL_bulk (d n : Nat) : ∀ xs : List JT, bitems5 d n xs ≤ 2500 → wtL xs + 120 * n ≤ 120 * bitems5 d n xs
 | [], h => by rw [wtL, bitems5]; omega
 | x :: xs, h => by
   rw [bitems5] at h ⊢
   split at h
   · rename_i hn
     rw [if_pos hn]
     have h1 := bitems5_ge d xs (n + tbulk5 (d + 1) x)
     have h2 := wt_bulk (d + 1) x (by omega)
     have h3 := wtL_bulk d (n + tbulk5 (d + 1) x) xs h
     rw [wtL]
     omega
   · omega
end
theorem fieldsB_bulk : ∀ (l : List FT) (n m : Nat), fieldsB n l = some m → m ≤ 2500 → ∀ f ∈ l, tbulk5 0 f.dflt ≤ 2500
 | [], n, m, h, hm => by simp
 | g :: fs, n, m, h, hm => by
   rw [fieldsB] at h
   split at h
   · split at h
     · simp at h
     · have h3 := (fieldsB_sm fs _ m h hm).1
       intro f hf
       rcases List.mem_cons.1 hf with rfl | hf
       · omega
       · exact fieldsB_bulk fs _ m h hm f hf
   · obtain rfl := Option.some.inj h
     omega
theorem nodesB_bulk : ∀ (l : List NT) (n : Nat), nodesB n l ≤ 2500 → ∀ x ∈ l, ∀ f ∈ x.fields, tbulk5 0 f.dflt ≤ 2500
 | [], n, h => by simp
 | x :: xs, n, h => by
   rw [nodesB] at h
   split at h
   · split at h
     · omega
     · split at h
       · omega
       · rename_i m hm
         have h3 := nodesB_sm xs m h
         intro y hy
         rcases List.mem_cons.1 hy with rfl | hy
         · exact fieldsB_bulk _ _ m hm (by omega)
         · exact nodesB_bulk xs m h y hy
   · omega
structure SmallN (n : NT) : Prop where
 sm : n.sm 2500
 wd : ∀ f ∈ n.fields, wt f.dflt ≤ 300000
 dp : ∀ f ∈ n.fields, tdeep f.dflt ≤ 61
 inr : ∀ f ∈ n.fields, f.dflt.inr
 sz : -9223372036854775808 ≤ n.size ∧ n.size ≤ 9223372036854775807
theorem sbulk_small {s : ST} (h : sbulk s ≤ 2500) (hi : ∀ n ∈ s.nodes, ∀ f ∈ n.fields, f.dflt.inr) (hz : ∀ n ∈ s.nodes, -9223372036854775808 ≤ n.size ∧ n.size ≤ 9223372036854775807) : ∀ n ∈ s.nodes, SmallN n := by
 have hs := sbulk_sm h
 unfold sbulk at h
 split at h
 · omega
 · exact fun n hn => ⟨hs.2 n hn, fun f hf => by have h1 := nodesB_bulk _ _ h n hn f hf; have := wt_bulk 0 f.dflt h1; omega, fun f hf => nodesB_deep _ _ h n hn f hf, fun f hf => hi n hn f hf, hz n hn⟩

theorem tdeeps_ub : ∀ (xs : List JT) (n B : Nat), n ≤ B → (∀ x ∈ xs, 1 + tdeep x ≤ B) → tdeeps n xs ≤ B
 | [], n, B, h, _ => by rw [tdeeps]; exact h
 | x :: xs, n, B, h, hx => by
   rw [tdeeps]
   exact tdeeps_ub xs _ B (Nat.max_le.2 ⟨h, hx x (by simp)⟩) fun y hy => hx y (by simp [hy])
theorem wtL_app : ∀ (xs ys : List JT), wtL (xs ++ ys) = wtL xs + wtL ys
 | [], ys => by simp [wtL]
 | x :: xs, ys => by rw [List.cons_append, wtL, wtL, wtL_app xs ys]; omega
theorem wks_app (xs ys : List (List UInt8)) : wks (xs ++ ys) = wks xs + wks ys := by unfold wks; rw [List.map_append, List.sum_append]
structure Fit (D : Nat) (t : JT) : Prop where
 sm : t.sm 1000000
 inr : t.inr
 dp : tdeep t ≤ D
def wO (l : List (List UInt8 × JT)) : Nat := wks (l.map Prod.fst) + wtL (l.map Prod.snd)
theorem wt_obj (l : List (List UInt8 × JT)) : wt (objJ l) = 100 + wO l := by
 rw [objJ, wt, wO]
 simp
 omega
theorem wO_app (l m : List (List UInt8 × JT)) : wO (l ++ m) = wO l + wO m := by unfold wO; rw [List.map_append, List.map_append, wks_app, wtL_app]; omega
theorem wO_one (k : List UInt8) (x : JT) : wO [(k, x)] = 6 * k.length + 10 + wt x := by unfold wO wks; simp [wtL]
theorem wO_put (l : List (List UInt8 × JT)) (b : Bool) (k : List UInt8) (x : JT) : wO (putO l b k x) ≤ wO l + (6 * k.length + 10 + wt x) := by
 unfold putO
 split
 · rw [wO_app, wO_one]; omega
 · omega
theorem wt_text (s : List UInt8) : wt (textJ s) = 100 + 6 * s.length := by simp [textJ, wt, wks, wtL]
theorem wt_list (l : List JT) : wt (listJ l) = 100 + wtL l := by simp [listJ, wt, wks]
theorem wt_texts {l : List (List UInt8)} (h : l.length ≤ 2500) (hs : ∀ y ∈ l, y.length ≤ 2500) : wt (textsJ l) ≤ 37750100 := by
 have key : ∀ m : List (List UInt8), (∀ y ∈ m, y.length ≤ 2500) → wtL (m.map textJ) ≤ 15100 * m.length := by
  intro m
  induction m with
  | nil => intro _; simp [wtL]
  | cons y ys ih =>
    intro hm
    have h1 := hm y (by simp)
    have h2 := ih fun z hz => hm z (by simp [hz])
    rw [List.map_cons, wtL, wt_text, List.length_cons]
    omega
 have := key l hs
 rw [textsJ, wt_list]
 omega
theorem wordM_short (k : Nat) : (wordM k).length ≤ 20 := by
 by_cases h : k < 15
 · have : ∀ x : Fin 15, (wordM x.val).length ≤ 20 := by decide
   exact this ⟨k, h⟩
 · unfold wordM
   rw [List.getElem?_eq_none (by have : kwords.length = 15 := rfl; omega)]
   simp
theorem fit_text {s : List UInt8} (h : s.length ≤ 1000000) (D : Nat) : Fit D (textJ s) := ⟨⟨h, by simp, by simp, by simp, trivial⟩, ⟨⟨by omega, by omega⟩, trivial⟩, by simp [textJ, tdeep]⟩
theorem fit_list {l : List JT} {D : Nat} (hl : l.length ≤ 1000000) (hx : ∀ x ∈ l, Fit D x) : Fit (D + 1) (listJ l) :=
 ⟨⟨by simp, by simp, by simp, hl, smL_of fun x h => (hx x h).sm⟩, ⟨⟨by omega, by omega⟩, inrL_of fun x h => (hx x h).inr⟩, by
   rw [listJ, tdeep, if_pos (.inl rfl)]
   exact tdeeps_ub l 1 _ (by omega) fun x h => by have := (hx x h).dp; omega⟩
theorem fit_obj {l : List (List UInt8 × JT)} {D : Nat} (hl : l.length ≤ 1000000) (hk : ∀ p ∈ l, p.1.length ≤ 1000000) (hx : ∀ p ∈ l, Fit D p.2) : Fit (D + 1) (objJ l) :=
 ⟨⟨by simp, by simpa using hl, fun y hy => by obtain ⟨p, hp, rfl⟩ := List.mem_map.1 hy; exact hk p hp, by simpa using hl, smL_of fun x h => by obtain ⟨p, hp, rfl⟩ := List.mem_map.1 h; exact (hx p hp).sm⟩,
   ⟨⟨by omega, by omega⟩, inrL_of fun x h => by obtain ⟨p, hp, rfl⟩ := List.mem_map.1 h; exact (hx p hp).inr⟩, by
   rw [objJ, tdeep, if_pos (.inr rfl)]
   exact tdeeps_ub _ 1 _ (by omega) fun x h => by obtain ⟨p, hp, rfl⟩ := List.mem_map.1 h; have := (hx p hp).dp; omega⟩
theorem Fit.mono {D E : Nat} {t : JT} (h : Fit D t) (hd : D ≤ E) : Fit E t := ⟨h.sm, h.inr, Nat.le_trans h.dp hd⟩
theorem fit_texts {l : List (List UInt8)} (h : l.length ≤ 1000000) (hs : ∀ y ∈ l, y.length ≤ 1000000) (D : Nat) : Fit (D + 1) (textsJ l) :=
 fit_list (by simpa using h) fun x hx => by obtain ⟨y, hy, rfl⟩ := List.mem_map.1 hx; exact fit_text (hs y hy) D
def FitO (D : Nat) (l : List (List UInt8 × JT)) : Prop := ∀ p ∈ l, p.1.length ≤ 1000000 ∧ Fit D p.2
theorem FitO.put {D : Nat} {l : List (List UInt8 × JT)} (h : FitO D l) (b : Bool) {k : List UInt8} {x : JT} (hk : k.length ≤ 1000000) (hx : Fit D x) : FitO D (putO l b k x) := by
 unfold putO
 split
 · intro p hp
   rcases List.mem_append.1 hp with hp | hp
   · exact h p hp
   · obtain rfl := List.mem_singleton.1 hp
     exact ⟨hk, hx⟩
 · exact h
theorem FitO.app {D : Nat} {l : List (List UInt8 × JT)} (h : FitO D l) {k : List UInt8} {x : JT} (hk : k.length ≤ 1000000) (hx : Fit D x) : FitO D (l ++ [(k, x)]) := h.put true hk hx
theorem FitO.nil (D : Nat) : FitO D [] := fun p hp => by simp at hp
theorem FitO.obj {D : Nat} {l : List (List UInt8 × JT)} (h : FitO D l) (hl : l.length ≤ 1000000) : Fit (D + 1) (objJ l) := fit_obj hl (fun p hp => (h p hp).1) fun p hp => (h p hp).2
theorem field_fit {f : FT} {x : JT} {D : Nat} (hf : f.sm 2500) (hi : f.dflt.inr) (hd : tdeep f.dflt ≤ 61) (hx : Fit D x) (h61 : 61 ≤ D) : Fit (D + 1) (objJ (fieldO f x)) := by
 obtain ⟨a1, a2, a3, a4⟩ := hf
 have h0 : FitO D [(aName, textJ f.name), (aType, x)] := ((FitO.nil D).app (k := aName) (by decide) (fit_text (by omega) D)).app (k := aType) (by decide) hx
 have hT : Fit D (textsJ f.aliases) := by
  obtain ⟨E, rfl⟩ : ∃ E, D = E + 1 := ⟨D - 1, by omega⟩
  exact fit_texts (by omega) (fun y hy => by have := a3 y hy; omega) E
 refine FitO.obj ((h0.put _ (k := aAliases) (by decide) hT).put _ (k := aDefault) (by decide) ⟨sm_le (by omega) _ a4, hi, by omega⟩) ?_
 have h1 := (putO_len [(aName, textJ f.name), (aType, x)] (decide (0 < f.aliases.length)) aAliases (textsJ f.aliases)).2
 have h2 := (putO_len (putO [(aName, textJ f.name), (aType, x)] (decide (0 < f.aliases.length)) aAliases (textsJ f.aliases)) f.has aDefault f.dflt).2
 unfold fieldO
 simp at h1 h2
 omega
theorem field_wt {f : FT} {x : JT} (hf : f.sm 2500) (hw : wt f.dflt ≤ 300000) : wt (objJ (fieldO f x)) ≤ 38100000 + wt x := by
 obtain ⟨a1, a2, a3, a4⟩ := hf
 have h1 := wO_put [(aName, textJ f.name), (aType, x)] (decide (0 < f.aliases.length)) aAliases (textsJ f.aliases)
 have h2 := wO_put (putO [(aName, textJ f.name), (aType, x)] (decide (0 < f.aliases.length)) aAliases (textsJ f.aliases)) f.has aDefault f.dflt
 have h3 := wt_texts a2 a3
 have h4 : wO [(aName, textJ f.name), (aType, x)] = (6 * 4 + 10 + wt (textJ f.name)) + (6 * 4 + 10 + wt x) := by
  rw [show [(aName, textJ f.name), (aType, x)] = [(aName, textJ f.name)] ++ [(aType, x)] from rfl, wO_app, wO_one, wO_one]
  rfl
 rw [wt_text] at h4
 rw [wt_obj, fieldO]
 have e1 : aAliases.length = 7 := rfl
 have e2 : aDefault.length = 7 := rfl
 omega
def sumN (X : Nat → Nat) : Nat → Nat
 | 0 => 0
 | i + 1 => sumN X i + X i
theorem fields_wt (fs : List FT) (hf : ∀ f ∈ fs, f.sm 2500) (hw : ∀ f ∈ fs, wt f.dflt ≤ 300000) (X : Nat → JT) : ∀ i, wtL (fieldsJ fs X i) ≤ 38100000 * i + sumN (fun i => wt (X i)) i
 | 0 => by simp [fieldsJ, wtL]
 | i + 1 => by
   have ih := fields_wt fs hf hw X i
   rw [fieldsJ, wtL_app, sumN]
   cases h : fs[i]? with
   | none => simp only [wtL]; omega
   | some f =>
     have := field_wt (x := X i) (hf f (List.mem_of_getElem? h)) (hw f (List.mem_of_getElem? h))
     simp only [wtL]
     omega
theorem brs_wt (X : Nat → JT) : ∀ i, wtL (brsJ X i) = sumN (fun i => wt (X i)) i
 | 0 => rfl
 | i + 1 => by rw [brsJ, wtL_app, brs_wt X i, sumN]; simp [wtL]
theorem head_wt {n : NT} (h : n.sm 2500) : wO (headO n) ≤ 38000000 := by
 obtain ⟨a1, a2, ⟨a3, a4⟩, _⟩ := h
 have h1 := wO_put [(aType, textJ (wordM n.kind.toNat)), (aName, textJ (lastM n.name)), (aSpace, textJ (spaceM n.name))] (decide (0 < n.aliases.length)) aAliases (textsJ n.aliases)
 have h2 := wt_texts a3 a4
 have h3 : wO [(aType, textJ (wordM n.kind.toNat)), (aName, textJ (lastM n.name)), (aSpace, textJ (spaceM n.name))] = (6 * 4 + 10 + wt (textJ (wordM n.kind.toNat))) + (6 * 4 + 10 + wt (textJ (lastM n.name))) + (6 * 9 + 10 + wt (textJ (spaceM n.name))) := by
  rw [show [(aType, textJ (wordM n.kind.toNat)), (aName, textJ (lastM n.name)), (aSpace, textJ (spaceM n.name))] = ([(aType, textJ (wordM n.kind.toNat))] ++ [(aName, textJ (lastM n.name))]) ++ [(aSpace, textJ (spaceM n.name))] from rfl, wO_app, wO_app, wO_one, wO_one, wO_one]
  rfl
 rw [wt_text, wt_text, wt_text] at h3
 have := wordM_short n.kind.toNat
 have := space_len n.name
 have := last_len n.name
 have e1 : aAliases.length = 7 := rfl
 unfold headO
 omega
theorem node_wt {n : NT} (h : SmallN n) (X : Nat → JT) : wt (nodeJ n X) ≤ 1000000000000 + sumN (fun i => wt (X i)) (kidsN n).length := by
 have hh := head_wt h.sm
 have hf := fields_wt n.fields h.sm.2.2.2.2.2.2 h.wd X n.fields.length
 have hfl := h.sm.2.2.2.2.2.1
 have hsy := wt_texts h.sm.2.2.2.1.1 h.sm.2.2.2.1.2
 have hdl := h.sm.2.1
 have hwd := wordM_short n.kind.toNat
 have e1 : aFields.length = 6 := rfl
 have e2 : aSymbols.length = 7 := rfl
 have e3 : aDefault.length = 7 := rfl
 have e4 : aSize.length = 4 := rfl
 have e5 : aType.length = 4 := rfl
 have e6 : aItems.length = 5 := rfl
 have e7 : aValues.length = 6 := rfl
 unfold nodeJ kidsN
 split
 · rw [wt_obj, wO_app, wO_one, wt_list, List.length_map]
   omega
 split
 · have h1 := wO_put (headO n ++ [(aSymbols, textsJ n.symbols)]) n.has aDefault (textJ n.dflt)
   rw [wO_app, wO_one, wt_text] at h1
   rw [wt_obj]
   omega
 split
 · have h2 : wt (JT.mk 3 n.size [] [] []) = 100 := by simp [wt, wks, wtL]
   rw [wt_obj, wO_app, wO_one, h2]
   omega
 split
 · rename_i h13
   rw [wt_list, brs_wt, if_neg (by omega)]
   omega
 split
 · rename_i h11
   have := wordM_short 11
   rw [if_pos (.inl h11), wt_obj, show [(aType, textJ (wordM 11)), (aItems, X 0)] = [(aType, textJ (wordM 11))] ++ [(aItems, X 0)] from rfl, wO_app, wO_one, wO_one, wt_text]
   simp only [List.length_singleton, sumN]
   omega
 split
 · rename_i h12
   have := wordM_short 12
   rw [if_pos (.inr h12), wt_obj, show [(aType, textJ (wordM 12)), (aValues, X 0)] = [(aType, textJ (wordM 12))] ++ [(aValues, X 0)] from rfl, wO_app, wO_one, wO_one, wt_text]
   simp only [List.length_singleton, sumN]
   omega
 · rw [wt_text]
   omega

theorem bareM_eq (n : NT) : bareM n = (!(if namedK n.kind = true then false else (!(n.name == []) || decide ((n.aliases.length : Int) > 0))) && (!(if n.kind == 9 then false else decide ((n.fields.length : Int) > 0)) &&
  (!(if n.kind == 10 then false else (decide ((n.symbols.length : Int) > 0) || n.has || !(n.dflt == []))) && (!(if n.kind == 14 then false else n.size != 0) && (!(if (n.kind == 11) = true ∨ (n.kind == 12) = true then false else n.items != 0) && !(if n.kind == 13 then false else decide ((n.branches.length : Int) > 0))))))) := by
 have e0 : ∀ l : List UInt8, l.isEmpty = (l == []) := fun l => by cases l <;> rfl
 have e1 : ∀ {α : Type} (l : List α), l.isEmpty = !decide ((l.length : Int) > 0) := fun l => by
  cases l with
  | nil => rfl
  | cons x l => simp
 unfold bareM
 rw [e0 n.name, e0 n.dflt, e1 n.aliases, e1 n.fields, e1 n.symbols, e1 n.branches]
 cases namedK n.kind <;> cases (n.kind == 9) <;> cases (n.kind == 10) <;> cases (n.kind == 14) <;> cases (n.kind == 11) <;> cases (n.kind == 12) <;> cases (n.kind == 13) <;> simp [bne, Bool.and_assoc]
theorem bare_told (n : NT) : Told Tryz.prog 129 [n.av] (.c (.v (.bool (bareM n)))) := by
 obtain ⟨V, hV⟩ : ∃ V, V = bareM n := ⟨_, rfl⟩
 rw [← hV]
 rw [bareM_eq] at hV
 have hN := named_told n.kind
 have hE : (⟨#[]⟩ : ByteArray).toList = [] := str_toList []
 rw [NT.av_eq, ncells_mk]
 refine VC.toldP ent_129 Tryz.func129 rfl Tryz.ntmps129 fun hb => ?_
 clear hb
 refine walkGF (And.intro @str_toList hE) ?_
 obtain ⟨p1, hp1⟩ : ∃ p : Bool, p = (!(n.name == []) || decide ((n.aliases.length : Int) > 0)) := ⟨_, rfl⟩
 obtain ⟨p2, hp2⟩ : ∃ p : Bool, p = decide ((n.fields.length : Int) > 0) := ⟨_, rfl⟩
 obtain ⟨p3, hp3⟩ : ∃ p : Bool, p = (decide ((n.symbols.length : Int) > 0) || n.has || !(n.dflt == [])) := ⟨_, rfl⟩
 obtain ⟨p4, hp4⟩ : ∃ p : Bool, p = (n.size != 0) := ⟨_, rfl⟩
 obtain ⟨p5, hp5⟩ : ∃ p : Bool, p = (n.items != 0) := ⟨_, rfl⟩
 obtain ⟨p6, hp6⟩ : ∃ p : Bool, p = decide ((n.branches.length : Int) > 0) := ⟨_, rfl⟩
 rw [← hp1, ← hp2, ← hp3, ← hp4, ← hp5, ← hp6] at hV ⊢
 clear hp1 hp2 hp3 hp4 hp5 hp6
 refine walkC (hN) ?_
 by_cases h9 : n.kind = 9
 · rw [h9] at hV ⊢
   have hv : V = (!p3 && !p4 && !p5 && !p6) := by rw [hV]; simp [namedK, Bool.and_assoc]
   clear hV
   have hn : namedK 9 = true := rfl
   refine walkBF (hn) ?_
   refine retX Tryz.results129 ?_
   refine frz_c ?_
   rw [hv]
   try simp [Bool.and_assoc]
 by_cases h10 : n.kind = 10
 · rw [h10] at hV ⊢
   have hv : V = (!p2 && !p4 && !p5 && !p6) := by rw [hV]; simp [namedK, Bool.and_assoc]
   clear hV
   have hn : namedK 10 = true := rfl
   refine walkBF (hn) ?_
   refine retX Tryz.results129 ?_
   refine frz_c ?_
   rw [hv]
   try simp [Bool.and_assoc]
 by_cases h14 : n.kind = 14
 · rw [h14] at hV ⊢
   have hv : V = (!p2 && !p3 && !p5 && !p6) := by rw [hV]; simp [namedK, Bool.and_assoc]
   clear hV
   have hn : namedK 14 = true := rfl
   refine walkBF (hn) ?_
   refine retX Tryz.results129 ?_
   refine frz_c ?_
   rw [hv]
   try simp [Bool.and_assoc]
 by_cases h11 : n.kind = 11
 · rw [h11] at hV ⊢
   have hv : V = (!p1 && !p2 && !p3 && !p4 && !p6) := by rw [hV]; simp [namedK, Bool.and_assoc]
   clear hV
   have hn : namedK 11 = false := rfl
   refine walkBF (hn) ?_
   refine retX Tryz.results129 ?_
   refine frz_c ?_
   rw [hv]
   try simp [Bool.and_assoc]
 by_cases h12 : n.kind = 12
 · rw [h12] at hV ⊢
   have hv : V = (!p1 && !p2 && !p3 && !p4 && !p6) := by rw [hV]; simp [namedK, Bool.and_assoc]
   clear hV
   have hn : namedK 12 = false := rfl
   refine walkBF (hn) ?_
   refine retX Tryz.results129 ?_
   refine frz_c ?_
   rw [hv]
   try simp [Bool.and_assoc]
 by_cases h13 : n.kind = 13
 · rw [h13] at hV ⊢
   have hv : V = (!p1 && !p2 && !p3 && !p4 && !p5) := by rw [hV]; simp [namedK, Bool.and_assoc]
   clear hV
   have hn : namedK 13 = false := rfl
   refine walkBF (hn) ?_
   refine retX Tryz.results129 ?_
   refine frz_c ?_
   rw [hv]
   try simp [Bool.and_assoc]
 · have e9 : (n.kind == 9) = false := by simpa using h9
   have e10 : (n.kind == 10) = false := by simpa using h10
   have e14 : (n.kind == 14) = false := by simpa using h14
   have e11 : (n.kind == 11) = false := by simpa using h11
   have e12 : (n.kind == 12) = false := by simpa using h12
   have e13 : (n.kind == 13) = false := by simpa using h13
   have hn : namedK n.kind = false := by simp [namedK, h9, h10, h14]
   have hv : V = (!p1 && !p2 && !p3 && !p4 && !p5 && !p6) := by rw [hV, hn]; simp [h9, h10, h14, h11, h12, h13, Bool.and_assoc]
   clear hV
   rw [hn]
   refine walkBF (And.intro e9 (And.intro e10 (And.intro e14 (And.intro e11 (And.intro e12 e13))))) ?_
   refine retX Tryz.results129 ?_
   refine frz_c ?_
   rw [hv]

theorem view_jzero (h : Nat → Option Blkd) : View h (.agg [.c (.v (.int .i64 0)), .c (.v (.int .i64 0)), .c (.v (.string ⟨#[]⟩)), .c (.v (.slice none 0 0)), .c (.v (.slice none 0 0))]) jzero.av := by
 refine .agg rfl fun k x y h1 h2 => ?_
 match k with
 | 0 => obtain rfl := Option.some.inj h1; obtain rfl := Option.some.inj h2; exact .same _
 | 1 => obtain rfl := Option.some.inj h1; obtain rfl := Option.some.inj h2; exact .same _
 | 2 => obtain rfl := Option.some.inj h1; obtain rfl := Option.some.inj h2; exact .same _
 | 3 => obtain rfl := Option.some.inj h1; obtain rfl := Option.some.inj h2; exact .nil 5
 | 4 => obtain rfl := Option.some.inj h1; obtain rfl := Option.some.inj h2; exact .nil 1
 | k + 5 => simp at h1
theorem fieldM_eq (f : FT) : fieldM f = !((!allM simpleM f.aliases || f.has && !jR f.dflt) || !f.has && !jeq f.dflt jzero) := by
 unfold fieldM
 cases f.has <;> simp
theorem fields_told (l : List FT) (hl : l.length ≤ 1000000) (hs : ∀ f ∈ l, f.sm 1000000) : Told Tryz.prog 132 [.c (.sl 9 (l.map FT.cells))] (.c (.v (.bool (fieldsM l)))) := by
 obtain ⟨V, hV⟩ : ∃ V, V = fieldsM l := ⟨_, rfl⟩
 rw [← hV]
 refine VC.toldP ent_132 Tryz.func132 rfl Tryz.ntmps132 fun hb => ?_
 clear hb
 refine walkG ?_
 refine VC.nil 3 9 1 (by rfl) (by trivial) (by rfl) ?_
 refine VC.loop (ι := {i : Nat // i ≤ l.length ∧ ∀ (j : Nat) (f : FT), j < i → l[j]? = some f → fieldM f = true}) (fun q => [(0, .c (.sl 9 (l.map FT.cells))), (3, .row 40 q.1), (6, .c (.sl 9 (l.map FT.cells))), (7, .c (.v (.int .i64 (l.length : Int)))), (8, .c (.v (.int .i64 (q.1 : Int))))])
  (fun q => [(40, ⟨true, 9, 1, rA sPV ((l.map (·.name)).take q.1)⟩)]) 800 (fun q => l.length - q.1) ⟨0, Nat.zero_le _, fun j f h => by omega⟩ ?_ ?_
 · exact weakZF (And.intro @rA_len (And.intro @rA_sc @rA_nil))
 rintro ⟨i, hi, ht⟩
 simp only []
 refine walkG ?_
 refine VC.cond (by rfl) (by trivial) (fun hc => ?_) (fun hc => ?_)
 · have hlt : i < l.length := by simp at hc; omega
   obtain ⟨f, hx⟩ : ∃ f, l[i]? = some f := ⟨l[i], List.getElem?_eq_getElem hlt⟩
   have hw : IntKind.i64.wrap ((i : Int) + 1) = (i : Int) + 1 := wrap64_id (by omega) (by omega)
   have hxp : (l.map FT.cells)[i]? = some f.cells := by rw [List.getElem?_map, hx]; rfl
   have hln : (rA sPV ((l.map (·.name)).take i)).length = i := by rw [rA_len]; simp; omega
   have hr : rA sPV ((l.map (·.name)).take i) ++ [[.c (.v (.string (str f.name)))]] = rA sPV ((l.map (·.name)).take (i + 1)) := by
    rw [List.take_add_one, List.getElem?_map, hx]
    exact rA_one sPV _ f.name
   have hl2 : (rA sPV ((l.map (·.name)).take (i + 1))).length = i + 1 := by rw [rA_len]; simp; omega
   obtain ⟨hn1, ha1, ha2, hd⟩ := hs f (List.mem_of_getElem? hx)
   have hA := all_told (g := 134) (rule := simpleM) f.aliases fun x hx => simple_told x (by have := ha2 x hx; omega)
   have hR := jRight_told f.dflt (sm_le (by omega) _ hd)
   have hS := same_told _ f.dflt jzero (Nat.le_refl _)
   simp only [JT.av] at hR
   have hM := fieldM_eq f
   obtain ⟨b1, hb1⟩ : ∃ b, b = allM simpleM f.aliases := ⟨_, rfl⟩
   obtain ⟨b2, hb2⟩ : ∃ b, b = jR f.dflt := ⟨_, rfl⟩
   obtain ⟨b3, hb3⟩ : ∃ b, b = jeq f.dflt jzero := ⟨_, rfl⟩
   rw [← hb1, ← hb2, ← hb3] at hM
   rw [← hb1] at hA
   rw [← hb2] at hR
   rw [← hb3] at hS
   replace hM := Lib.hid hM
   clear hb1 hb2 hb3 ha1 ha2 hd
   refine walkGF (And.intro hxp (And.intro @fcells_mk (And.intro @len_cells (And.intro @take_cells (And.intro @take_cellsC (And.intro hln hr)))))) ?_
   refine walkC (hA) ?_
   refine walkGF (And.intro @fcells_mk (And.intro @len_cells (And.intro @take_cells @take_cellsC))) ?_
   refine walkDF (@pureL_c) (hR) ?_
   refine walkGF (And.intro @fcells_mk (And.intro @len_cells (And.intro @take_cells @take_cellsC))) ?_
   (refine AO.step fun K hK => ?_; simp only [go_sem, Int.reduceBEq, Int.reduceLE, Int.reduceLT, Int.reduceNeg, Nat.reduceAdd, Nat.reduceEqDiff, Nat.reduceLT, Nat.reduceLeDiff, Nat.reduceMul, Nat.reduceSub, reduceCtorEq, ↓reduceIte]; (first | refine gsel_go ?_ | skip))
   refine .inr (.inl ⟨.c (.v (.bool b3)), [f.dflt.av, jzero.av], [], fun hg => ⟨hg, by simp [AV.pureL, AV.pureB, JT.av, pureL_c], rfl, fun k x z h5 h6 => ?_, rfl, hS⟩, hK _ _ _ ?_⟩)
   · match k with
     | 0 => obtain rfl := Option.some.inj h5; obtain rfl := Option.some.inj h6; exact .same _
     | 1 => obtain rfl := Option.some.inj h5; obtain rfl := Option.some.inj h6; exact view_jzero _
     | k + 2 => simp at h5
   clear hK K
   refine walkG ?_
   refine VC.cond (by rfl) (by trivial) (fun hc2 => ?_) (fun hc2 => ?_)
   · have hf : V = false := by
      have : fieldM f = false := by
       rw [hM.out, hc2]
       rfl
      have h2 : l.all fieldM = false := by
       rw [List.all_eq_false]
       exact ⟨f, List.mem_of_getElem? hx, by simp [this]⟩
      rw [hV, fieldsM, h2]
      rfl
     subst hf
     refine walkG ?_
     refine retX Tryz.results132 ?_
     exact .c _
   · have hft : fieldM f = true := by
      rw [hM.out, hc2]
      rfl
     refine walkGF (hw) ?_
     refine .next ⟨i + 1, by omega, ?_⟩ ?_ (by simp only []; omega)
     · intro j g hj hg
       by_cases hji : j < i
       · exact ht j g hji hg
       · obtain rfl : j = i := by omega
         rw [hx] at hg
         obtain rfl := Option.some.inj hg
         exact hft
     refine weakXF (And.intro hl2 @rA_sc) ?_
     exact ⟨cI (by omega), Nat.le_refl _⟩
 · have hie : i = l.length := by simp at hc; omega
   have htk : (l.map (·.name)).take i = l.map (·.name) := List.take_of_length_le (by simp; omega)
   have hall : l.all fieldM = true := by
    rw [List.all_eq_true]
    intro f hf
    obtain ⟨j, hj⟩ := List.getElem?_of_mem hf
    exact ht j f (by have := (List.getElem?_eq_some_iff.1 hj).1; omega) hj
   have hD := different_told (g := 134) (rule := simpleM) (l.map (·.name)) (by simp; omega) fun x hx => by
    obtain ⟨f, hf, rfl⟩ := List.mem_map.1 hx
    exact simple_told f.name (by have := (hs f hf).1; omega)
   have hv : V = (decide ((l.length : Int) ≤ 40) && diffM simpleM (l.map (·.name))) := by
    rw [hV, fieldsM, hall, Bool.true_and]
    congr 1
    simp
    omega
   clear hV
   replace hv := Lib.hid hv
   rw [htk]
   have hrl : (rA sPV (l.map (·.name))).length = i := by rw [rA_len]; simp; omega
   refine walkGF (hrl) ?_
   (refine AO.step fun K hK => ?_; simp only [go_sem, Int.reduceBEq, Int.reduceLE, Int.reduceLT, Int.reduceNeg, Nat.reduceAdd, Nat.reduceEqDiff, Nat.reduceLT, Nat.reduceLeDiff, Nat.reduceMul, Nat.reduceSub, reduceCtorEq, ↓reduceIte, hrl]; (first | refine gsel_go ?_ | skip))
   refine .inr (.inl ⟨.c (.v (.bool (diffM simpleM (l.map (·.name))))), [.c (.sl 1 ((l.map (·.name)).map sPV)), .fn (.func 134) [] []], [40], fun hg => ⟨hg, by simp [AV.pureL, AV.pureB], rfl, fun k x z h5 h6 => ?_, rfl, hD⟩, hK _ _ _ ?_⟩)
   · match k with
     | 0 =>
       obtain rfl := Option.some.inj h5
       obtain rfl := Option.some.inj h6
       exact View.row (B := ⟨true, 9, 1, rA sPV (l.map fun f : FT => f.name)⟩) (es := (l.map fun f : FT => f.name).map sPV) rfl rfl hrl (rA_pv _ _)
     | 1 => obtain rfl := Option.some.inj h5; obtain rfl := Option.some.inj h6; exact .same _
     | k + 2 => simp at h5
   clear hK K
   refine walkG ?_
   refine retX Tryz.results132 ?_
   rw [hv.out]
   exact .c _

theorem ixfI_told {g : FuncId} {fs cs : List AV} (hp : AV.pureL fs = true) (hp' : AV.pureL cs = true) (l : List (Int)) (p : Int → Bool) (hk : ∀ x ∈ l, Told Tryz.prog g (fs ++ ([.c (.v (.int .i64 x))] ++ cs)) (.c (.v (.bool (p x))))) :
  Told Tryz.prog 213 [.c (.sl 1 (l.map iPV)), .fn (.func g) fs cs] (.c (.v (.int .i64 (idxP p l)))) := by
 refine VC.told ent_213 Tryz.func213 rfl Tryz.ntmps213 (by simp) (by simp [AV.pureB, AV.pureL, hp, hp']) rfl fun hb => ?_
 simp only [List.mem_cons, List.not_mem_nil, or_false, forall_eq_or_imp, forall_eq, abd_c, pbd_sl, List.length_map] at hb
 have h1 := hb.1.1
 clear hb
 refine walkG ?_
 refine VC.loop (ι := {i : Nat // i ≤ l.length ∧ ∀ j x, j < i → l[j]? = some x → p x = false}) (fun i => [(0, .c (.sl 1 (l.map iPV))), (1, .fn (.func g) fs cs), (7, .c (.v (.int .i64 l.length))), (8, .c (.v (.int .i64 i.1)))]) (fun _ => []) 0 (fun i => l.length - i.1) ⟨0, Nat.zero_le _, by intro j x hj; omega⟩ ?_ ?_
 · simp only [sc_pureL hp, sc_pureL hp', Weak, eq_self, used_is, sc_any, sc_c, sc_pp, sc_ref, sc_row, sc_agg, sc_fn, ScL, some_imp, List.forall_mem_map, go_sem, Int.reduceBEq, Int.reduceLE, Int.reduceLT, Int.reduceNeg, Nat.reduceAdd, Nat.reduceEqDiff, Nat.reduceLT, Nat.reduceLeDiff, Nat.reduceMul, Nat.reduceSub, reduceCtorEq, ↓reduceIte]
   all_goals rfl
 rintro ⟨i, hi, ht⟩
 refine walkG ?_
 refine VC.cond (by rfl) (by trivial) (fun hc => ?_) (fun hc => ?_)
 · simp only [decide_eq_true_eq] at hc
   obtain ⟨x, hx⟩ : ∃ x, l[i]? = some x := ⟨l[i]'(by omega), List.getElem?_eq_getElem _⟩
   have hw : IntKind.i64.wrap ((i : Int) + 1) = (i : Int) + 1 := wrap64_id (by omega) (by omega)
   have hkx := hk x (List.mem_of_getElem? hx)
   (repeat (first | refine pass ?_ | refine VC.region (by rfl) (by rfl) ?_ | (refine AO.step fun K hK => ?_; simp only [List.getElem?_map, hx, iPV, go_sem, Int.reduceBEq, Int.reduceLE, Int.reduceLT, Int.reduceNeg, Nat.reduceAdd, Nat.reduceEqDiff, Nat.reduceLT, Nat.reduceLeDiff, Nat.reduceMul, Nat.reduceSub, reduceCtorEq, ↓reduceIte]; (first | refine gsel_skip ?_ | refine gsel_go ?_ | skip); (first | refine hK _ _ _ ?_ | refine ⟨by first | omega | exact ⟨_, rfl, rfl⟩ | exact fun _ => ⟨_, rfl, rfl⟩ | (intro h; simp only [List.getElem?_map, hx, iPV, h, true_and]; omega) | (clear hK; intro h; simp_all <;> omega), hK _ _ _ ?_⟩); clear hK K) | refine VC.draw mixP (by rfl) (by rfl) ?_ | refine ⟨okd_of (by kernel_rfl), ?_⟩ | refine BQ.other (by decide) ?_ | refine VC.seq ?_ | refine AO.nil ?_ | refine VC.block ?_))
   ((refine AO.step fun K hK => ?_; simp only [go_sem, Int.reduceBEq, Int.reduceLE, Int.reduceLT, Int.reduceNeg, Nat.reduceAdd, Nat.reduceEqDiff, Nat.reduceLT, Nat.reduceLeDiff, Nat.reduceMul, Nat.reduceSub, reduceCtorEq, ↓reduceIte, iPV, hp, hp', pureL_app, pureL_c, List.append_assoc]; (first | refine gsel_go ?_ | skip)); refine .inl ⟨_, hkx, hK _ _ _ ?_⟩; clear hK K)
   refine walkG ?_
   refine VC.cond (by rfl) (by trivial) (fun hpx => ?_) (fun hpx => ?_)
   · have hr := idxP_at hx hpx ht
     refine walkG ?_
     refine retX Tryz.results213 ?_
     rw [hr]
     exact .c _
   · refine walkGF (hw) ?_
     refine .next ⟨i + 1, by omega, fun j y hj hy => ?_⟩ ?_ (by simp only []; omega)
     · rcases Nat.lt_or_ge j i with h | h
       · exact ht j y h hy
       · obtain rfl : j = i := by omega
         rw [hx] at hy
         obtain rfl := Option.some.inj hy
         exact hpx
     simp only [sc_pureL hp, sc_pureL hp', Weak, eq_self, used_is, sc_any, sc_c, sc_pp, sc_ref, sc_row, sc_agg, sc_fn, ScL, some_imp, List.forall_mem_map, go_sem, Int.reduceBEq, Int.reduceLE, Int.reduceLT, Int.reduceNeg, Nat.reduceAdd, Nat.reduceEqDiff, Nat.reduceLT, Nat.reduceLeDiff, Nat.reduceMul, Nat.reduceSub, reduceCtorEq, ↓reduceIte]
     exact cI (by omega)
 · simp only [decide_eq_false_iff_not] at hc
   obtain rfl : i = l.length := by omega
   have hr := idxP_none ht
   refine walkG ?_
   refine retX Tryz.results213 ?_
   rw [hr]
   exact .c _
theorem cnfI_told {g : FuncId} {fs cs : List AV} (hp : AV.pureL fs = true) (hp' : AV.pureL cs = true) (l : List (Int)) (p : Int → Bool) (hk : ∀ x ∈ l, Told Tryz.prog g (fs ++ ([.c (.v (.int .i64 x))] ++ cs)) (.c (.v (.bool (p x))))) :
  Told Tryz.prog 183 [.c (.sl 1 (l.map iPV)), .fn (.func g) fs cs] (.c (.v (.bool (l.any p)))) := by
 have hi := ixfI_told hp hp' l p hk
 refine VC.told ent_183 Tryz.func183 rfl Tryz.ntmps183 (by simp) (by simp [AV.pureB, AV.pureL, hp, hp']) rfl fun hb => ?_
 clear hb
 refine walkG ?_
 refine walkCF (And.intro hp hp') (hi) ?_
 refine walkG ?_
 refine retX Tryz.results183 ?_
 exact frz_c (by rw [idxP_any])

theorem kindAt_of {ns : List NT} {j : Nat} {n : NT} (h : ns[j]? = some n) : kindAt ns j = n.kind := by rw [kindAt, h]
theorem union1_told (s : ST) (j : Nat) (k kind : Int) (hj : j < s.nodes.length) :
  Told Tryz.prog 184 [.c (.v (.int .i64 (j : Int))), .pp [.v (.int .i64 k)], .pp [.v (.int .i64 kind)], .pp s.cells] (.c (.v (.bool ((j : Int) == k || (!namedK kind && kindAt s.nodes j == kind))))) := by
 obtain ⟨n, hn⟩ : ∃ n, s.nodes[j]? = some n := ⟨s.nodes[j], List.getElem?_eq_getElem hj⟩
 have hnp : (s.nodes.map NT.cells)[j]? = some n.cells := by rw [List.getElem?_map, hn]; rfl
 rw [kindAt_of hn]
 have hN := named_told kind
 rw [scells_mk]
 refine VC.toldP ent_184 Tryz.func184 rfl Tryz.ntmps184 fun hb => ?_
 clear hb
 refine walkG ?_
 refine walkD (hN) ?_
 refine walkGF (And.intro hnp @ncells_mk) ?_
 refine retX Tryz.results184 ?_
 exact .c _
theorem drop_at {α : Type} {l : List α} {i : Nat} {x : α} (h : l[i]? = some x) : l.drop i = x :: l.drop (i + 1) := by
 obtain ⟨hlt, rfl⟩ := List.getElem?_eq_some_iff.1 h
 exact List.drop_eq_getElem_cons hlt
theorem union_told (s : ST) (l : List Int) (hl : ∀ k ∈ l, 0 ≤ k ∧ k < (s.nodes.length : Int)) (hlen : l.length ≤ 1000000) :
  Told Tryz.prog 135 [s.av, .c (.sl 1 (l.map iPV))] (.c (.v (.bool (unionM s.nodes l)))) := by
 obtain ⟨V, hV⟩ : ∃ V, V = unionM s.nodes l := ⟨_, rfl⟩
 rw [← hV]
 unfold unionM at hV
 rw [ST.av_eq, scells_mk]
 refine VC.toldP ent_135 Tryz.func135 rfl Tryz.ntmps135 fun hb => ?_
 clear hb
 refine walkG ?_
 refine VC.cond (by rfl) (by trivial) (fun hc => ?_) (fun hc => ?_)
 · have hf : V = false := by
    have : ¬ (1 ≤ l.length ∧ l.length ≤ 10) := by simp at hc; omega
    rw [hV]
    by_cases h1 : 1 ≤ l.length
    · have : ¬ l.length ≤ 10 := fun h => this ⟨h1, h⟩
      simp [this]
    · simp [h1]
   subst hf
   refine walkG ?_
   refine retX Tryz.results135 ?_
   exact .c _
 have hv : branchesM s.nodes [] l = V := by
  have h1 : 1 ≤ l.length ∧ l.length ≤ 10 := by simp at hc; omega
  rw [hV]
  simp [h1.1, h1.2]
 clear hV hc
 refine VC.frz [0] [(1, .c (.sl 1 (l.map iPV))), (2, .pp [.sl 10 (s.nodes.map NT.cells), .v (.int .i64 s.root)])] [] 400 ?_ ?_
 · simp only [WeakF, used_is, sc_any, sc_c, sc_pp, sc_ref, sc_row, sc_agg, sc_fn, ScL, some_imp, List.forall_mem_map, go_sem, Int.reduceBEq, Int.reduceLE, Int.reduceLT, Int.reduceNeg, Nat.reduceAdd, Nat.reduceEqDiff, Nat.reduceLT, Nat.reduceLeDiff, Nat.reduceMul, Nat.reduceSub, reduceCtorEq, ↓reduceIte]
   exact ⟨.same _, .ref (es := [.sl 10 (s.nodes.map NT.cells), .v (.int .i64 s.root)]) (by simp) rfl rfl rfl rfl⟩
 refine walkG ?_
 refine VC.loop (ι := {i : Nat // i ≤ l.length ∧ branchesM s.nodes (l.take i) (l.drop i) = V})
  (fun q => [(1, .c (.sl 1 (l.map iPV))), (2, .pp [.sl 10 (s.nodes.map NT.cells), .v (.int .i64 s.root)]), (16, .c (.sl 1 (l.map iPV))), (17, .c (.v (.int .i64 (l.length : Int)))), (18, .c (.v (.int .i64 (q.1 : Int))))]) (fun q => []) 800 (fun q => l.length - q.1) ⟨0, Nat.zero_le _, by simpa using hv⟩ ?_ ?_
 · exact weakZ
 clear hv
 rintro ⟨i, hi, hv⟩
 simp only []
 refine walkG ?_
 refine VC.cond (by rfl) (by trivial) (fun hc => ?_) (fun hc => ?_)
 · have hlt : i < l.length := by simp at hc; omega
   obtain ⟨x, hx⟩ : ∃ x, l[i]? = some x := ⟨l[i], List.getElem?_eq_getElem hlt⟩
   obtain ⟨h0, h1⟩ := hl x (List.mem_of_getElem? hx)
   obtain ⟨p, rfl⟩ : ∃ p : Nat, x = (p : Int) := ⟨x.toNat, by omega⟩
   have hp : p < s.nodes.length := by omega
   obtain ⟨n, hn⟩ : ∃ n, s.nodes[p]? = some n := ⟨s.nodes[p], List.getElem?_eq_getElem hp⟩
   have hnp : (s.nodes.map NT.cells)[p]? = some n.cells := by rw [List.getElem?_map, hn]; rfl
   have hw : IntKind.i64.wrap ((i : Int) + 1) = (i : Int) + 1 := wrap64_id (by omega) (by omega)
   have hxp : (l.map iPV)[i]? = some (iPV (p : Int)) := by rw [List.getElem?_map, hx]; rfl
   have htk : (l.map iPV).take i = (l.take i).map iPV := by rw [List.map_take]
   have hF := cnfI_told (g := 184) (fs := []) (cs := [.pp [.v (.int .i64 (p : Int))], .pp [.v (.int .i64 n.kind)], .pp s.cells]) rfl rfl (l.take i) (fun m => m == (p : Int) || (!namedK n.kind && kindAt s.nodes m.toNat == n.kind)) fun m hm => by
    obtain ⟨h2, h3⟩ := hl m (List.mem_of_mem_take hm)
    obtain ⟨j, rfl⟩ : ∃ j : Nat, m = (j : Int) := ⟨m.toNat, by omega⟩
    have := union1_told s j (p : Int) n.kind (by omega)
    rw [Int.toNat_natCast]
    exact this
   rw [drop_at hx, branchesM, branchM, Int.toNat_natCast, kindAt_of hn] at hv
   obtain ⟨b, hb⟩ : ∃ b : Bool, b = (l.take i).any fun m => m == (p : Int) || (!namedK n.kind && kindAt s.nodes m.toNat == n.kind) := ⟨_, rfl⟩
   rw [← hb] at hF hv
   refine walkGF (And.intro hxp (And.intro @iPV_eq (And.intro hnp @ncells_mk))) ?_
   (refine AO.step fun K hK => ?_; simp only [go_sem, Int.reduceBEq, Int.reduceLE, Int.reduceLT, Int.reduceNeg, Nat.reduceAdd, Nat.reduceEqDiff, Nat.reduceLT, Nat.reduceLeDiff, Nat.reduceMul, Nat.reduceSub, reduceCtorEq, ↓reduceIte, htk]; (first | refine gsel_go ?_ | skip))
   refine .inr (.inl ⟨.c (.v (.bool b)), [.c (.sl 1 ((l.take i).map iPV)), .fn (.func 184) [] [.pp [.v (.int .i64 (p : Int))], .pp [.v (.int .i64 n.kind)], .pp s.cells]], [832, 904], fun hg => ⟨hg, by rfl, rfl, fun k x z h5 h6 => ?_, rfl, hF⟩, hK _ _ _ ?_⟩)
   · match k with
     | 0 => obtain rfl := Option.some.inj h5; obtain rfl := Option.some.inj h6; exact .same _
     | 1 =>
       obtain rfl := Option.some.inj h5
       obtain rfl := Option.some.inj h6
       refine .fn rfl (by simp) rfl fun k x z h7 h8 => ?_
       match k with
       | 0 => obtain rfl := Option.some.inj h7; obtain rfl := Option.some.inj h8; exact View.ref (es := [.v (.int .i64 (p : Int))]) rfl rfl rfl rfl
       | 1 => obtain rfl := Option.some.inj h7; obtain rfl := Option.some.inj h8; exact View.ref (es := [.v (.int .i64 n.kind)]) rfl rfl rfl rfl
       | 2 => obtain rfl := Option.some.inj h7; obtain rfl := Option.some.inj h8; exact .same _
       | k + 3 => simp at h7
     | k + 2 => simp at h5
   clear hK K
   refine walkG ?_
   refine VC.cond (by rfl) (by trivial) (fun hc2 => ?_) (fun hc2 => ?_)
   · have hf : V = false := by
      rw [← hv]
      have : (n.kind != 13 && !b) = false := by
       cases b <;> simp at hc2 ⊢
       exact hc2
      rw [this]
      rfl
     subst hf
     refine walkG ?_
     refine retX Tryz.results135 ?_
     exact .c _
   · refine walkGF (hw) ?_
     refine .next ⟨i + 1, by omega, ?_⟩ ?_ (by simp only []; omega)
     · have : (n.kind != 13 && !b) = true := by
        cases b <;> simp at hc2 ⊢
        exact hc2
       rw [this, Bool.true_and] at hv
       rw [List.take_add_one, hx]
       exact hv
     simp only [Weak, eq_self, used_is, sc_any, sc_c, sc_pp, sc_ref, sc_row, sc_agg, sc_fn, ScL, some_imp, List.forall_mem_map, go_sem, Int.reduceBEq, Int.reduceLE, Int.reduceLT, Int.reduceNeg, Nat.reduceAdd, Nat.reduceEqDiff, Nat.reduceLT, Nat.reduceLeDiff, Nat.reduceMul, Nat.reduceSub, reduceCtorEq, ↓reduceIte]
     try exact cI (by omega)
 · have hie : i = l.length := by simp at hc; omega
   have hf : V = true := by
    rw [← hv, hie, List.drop_length, branchesM]
   subst hf
   refine walkG ?_
   refine retX Tryz.results135 ?_
   exact .c _

theorem node_told (s : ST) (n : NT) (hsm : n.sm 1000000) (hbr : n.kind = 13 → ∀ k ∈ n.branches, 0 ≤ k ∧ k < (s.nodes.length : Int)) : Told Tryz.prog 68 [s.av, n.av] (.c (.v (.bool (nodeM s.nodes n)))) := by
 obtain ⟨V, hV⟩ : ∃ V, V = nodeM s.nodes n := ⟨_, rfl⟩
 rw [← hV]
 unfold nodeM at hV
 obtain ⟨hn1, hn2, ⟨ha1, ha2⟩, ⟨hs1, hs2⟩, hb1, hf1, hf2⟩ := hsm
 have hB := bare_told n
 have hN := named_told n.kind
 have hF := full_told n.name (by omega)
 have hKd := kind_told n.name
 have hA := all_told (g := 72) (rule := fullM) n.aliases fun x hx => full_told x (by have := ha2 x hx; omega)
 have hFi := fields_told n.fields hf1 hf2
 have hC := contains_told n.symbols n.dflt
 have hD := different_told (g := 134) (rule := simpleM) n.symbols (by omega) fun x hx => simple_told x (by have := hs2 x hx; omega)
 have hU := fun h => union_told s n.branches (hbr h) hb1
 clear hbr ha1 ha2 hs2 hf2
 simp only [NT.av_eq, ncells_mk, List.map_cons, List.map_nil] at hB
 simp only [ST.av_eq, scells_mk, List.map_cons, List.map_nil] at hU
 obtain ⟨b0, h0⟩ : ∃ b, b = bareM n := ⟨_, rfl⟩
 obtain ⟨bN, hNN⟩ : ∃ b, b = namedK n.kind := ⟨_, rfl⟩
 obtain ⟨bF, hFF⟩ : ∃ b, b = fullM n.name := ⟨_, rfl⟩
 obtain ⟨kK, hKK⟩ : ∃ b, b = kindM n.name := ⟨_, rfl⟩
 obtain ⟨bA, hAA⟩ : ∃ b, b = allM fullM n.aliases := ⟨_, rfl⟩
 rw [← h0] at hV hB
 rw [← hNN] at hV hN
 rw [← hFF] at hV hF
 rw [← hKK] at hV hKd
 rw [← hAA] at hV hA
 clear h0 hFF hKK hAA
 rw [NT.av_eq, ncells_mk, ST.av_eq, scells_mk]
 have hE : (⟨#[]⟩ : ByteArray).toList = [] := str_toList []
 refine VC.toldP ent_68 Tryz.func68 rfl Tryz.ntmps68 fun hb => ?_
 clear hb
 refine walkG ?_
 refine walkD (hB) ?_
 refine walkG ?_
 refine VC.cond (by rfl) (by trivial) (fun hc => ?_) (fun hc => ?_)
 · have hf : V = false := by
    rw [hV]
    have : (decide (1 ≤ n.kind) && (decide (n.kind ≤ 14) && b0)) = false := by
     simp at hc ⊢
     intro h1 h2
     cases b0 with
     | false => rfl
     | true => simp at hc; omega
    rw [this]
    rfl
   subst hf
   refine walkG ?_
   refine retX Tryz.results68 ?_
   exact .c _
 have h1 : (decide (1 ≤ n.kind) && (decide (n.kind ≤ 14) && b0)) = true := by
  simp at hc ⊢
  exact ⟨by omega, by omega, hc.2⟩
 rw [h1, Bool.true_and] at hV
 clear h1 hc
 refine walkG ?_
 refine walkC (hN) ?_
 refine walkG ?_
 refine walkD (hF) ?_
 refine walkG ?_
 refine walkD (hKd) ?_
 refine walkG ?_
 refine walkD (hA) ?_
 refine walkG ?_
 refine VC.cond (by rfl) (by trivial) (fun hc => ?_) (fun hc => ?_)
 · have hf : V = false := by
    rw [hV]
    have : (!bN || (bF && (kK == 0 && bA))) = false := by
     cases bN <;> cases bF <;> cases bA <;> simp at hc ⊢
     simpa using hc
    rw [this]
    rfl
   subst hf
   refine walkG ?_
   refine retX Tryz.results68 ?_
   exact .c _
 have h1 : (!bN || (bF && (kK == 0 && bA))) = true := by
  cases bN <;> cases bF <;> cases bA <;> simp at hc ⊢
  simpa using hc
 rw [h1, Bool.true_and] at hV
 clear h1 hc hN hF hKd hA hB
 by_cases h9 : n.kind = 9
 · rw [if_pos h9] at hV
   subst hV
   rw [h9]
   refine walkB ?_
   refine walkC (hFi) ?_
   refine walkG ?_
   refine retX Tryz.results68 ?_
   exact .c _
 by_cases h10 : n.kind = 10
 · rw [if_neg h9, if_pos h10] at hV
   rw [h10]
   obtain ⟨bC, hCC⟩ : ∃ b, b = n.symbols.contains n.dflt := ⟨_, rfl⟩
   obtain ⟨bD, hDD⟩ : ∃ b, b = diffM simpleM n.symbols := ⟨_, rfl⟩
   rw [← hCC] at hV hC
   rw [← hDD] at hV hD
   clear hCC hDD
   refine walkB ?_
   refine walkC (hC) ?_
   refine walkGF (And.intro @str_toList hE) ?_
   refine VC.cond (by rfl) (by trivial) (fun hc => ?_) (fun hc => ?_)
   · have hf : V = false := by
      rw [hV]
      have : ((n.has == bC) && (n.has || n.dflt.isEmpty)) = false := by
       cases hh : n.has <;> cases bC <;> cases hd : n.dflt <;> simp [hh, hd] at hc ⊢
      rw [this]
      rfl
     subst hf
     refine walkG ?_
     refine retX Tryz.results68 ?_
     exact .c _
   · have h1 : ((n.has == bC) && (n.has || n.dflt.isEmpty)) = true := by
      cases hh : n.has <;> cases bC <;> cases hd : n.dflt <;> simp [hh, hd] at hc ⊢
     rw [h1, Bool.true_and] at hV
     have hv : V = ((decide ((n.symbols.length : Int) ≥ 1) && decide ((n.symbols.length : Int) ≤ 40)) && bD) := by
      rw [hV, Bool.and_assoc]
      congr 1
      · simp
        omega
      · congr 1
        simp
        omega
     clear hV hc h1
     replace hv := Lib.hid hv
     refine walkG ?_
     refine walkD (hD) ?_
     refine walkG ?_
     refine retX Tryz.results68 ?_
     rw [hv.out]
     exact .c _
 by_cases h14 : n.kind = 14
 · rw [if_neg h9, if_neg h10, if_pos h14] at hV
   rw [h14]
   refine walkB ?_
   refine retX Tryz.results68 ?_
   rw [hV]
   exact .c _
 by_cases h13 : n.kind = 13
 · rw [if_neg h9, if_neg h10, if_neg h14, if_pos h13] at hV
   subst hV
   rw [h13]
   have hU := hU h13
   refine walkB ?_
   refine walkC (hU) ?_
   refine walkG ?_
   refine retX Tryz.results68 ?_
   exact .c _
 · rw [if_neg h9, if_neg h10, if_neg h14, if_neg h13] at hV
   subst hV
   have e9 : (n.kind == 9) = false := by simpa using h9
   have e10 : (n.kind == 10) = false := by simpa using h10
   have e14 : (n.kind == 14) = false := by simpa using h14
   have e13 : (n.kind == 13) = false := by simpa using h13
   refine walkBF (And.intro e9 (And.intro e10 (And.intro e14 e13))) ?_
   refine retX Tryz.results68 ?_
   exact .c _

theorem namesM_take {ns : List NT} {i : Nat} {n : NT} (h : ns[i]? = some n) : namesM (ns.take (i + 1)) = namesM (ns.take i) ++ (if namedK n.kind = true then [n.name] else []) := by
 rw [List.take_add_one, h]
 simp only [namesM, List.filter_append, List.map_append, Option.toList_some]
 congr 1
 by_cases hk : namedK n.kind = true
 · simp [hk]
 · simp [hk]
theorem rA_rep (N : Nat) : rA iPV (List.replicate N 0) = List.replicate N [AV.c (.v (.int .i64 0))] := by
 simp [rA, iPV]
theorem ordered_kids {s : ST} (h : orderedM s = true) : ∀ n ∈ s.nodes, ∀ k ∈ kidsN n, 0 ≤ k ∧ k < (s.nodes.length : Int) := by
 intro n hn k hk
 obtain ⟨i, hi⟩ := List.getElem?_of_mem hn
 have := (ordered_stand h).1 i n (Nat.zero_le _) (List.getElem?_eq_some_iff.1 hi).1 hi k hk
 exact ⟨this.1, this.2.1⟩
theorem names_sm {ns : List NT} {N : Nat} (h : ∀ n ∈ ns, n.sm N) : ∀ x ∈ namesM ns, x.length ≤ N := by
 intro x hx
 obtain ⟨n, hn, rfl⟩ := List.mem_map.1 hx
 exact (h n (List.mem_filter.1 hn).1).1
theorem names_len (ns : List NT) : (namesM ns).length ≤ ns.length := by
 unfold namesM
 rw [List.length_map]
 exact List.length_filter_le _ _
theorem sRight_told (s : ST) (hsm : s.sm 1000000) : Told Tryz.prog 34 [s.av] (.c (.v (.bool (rightM s)))) := by
 obtain ⟨V, hV⟩ : ∃ V, V = rightM s := ⟨_, rfl⟩
 rw [← hV]
 unfold rightM at hV
 obtain ⟨hl, hs⟩ := hsm
 have hO := ordered_told s hl hs
 simp only [ST.av_eq, scells_mk, List.map_cons, List.map_nil] at hO
 rw [ST.av_eq, scells_mk]
 cases ho : orderedM s with
 | false =>
   rw [ho] at hO hV
   obtain rfl : V = false := hV
   refine VC.toldP ent_34 Tryz.func34 rfl Tryz.ntmps34 fun hb => ?_
   clear hb
   refine walkG ?_
   refine walkC (hO) ?_
   refine walkB ?_
   refine retX Tryz.results34 ?_
   exact .c _
 | true =>
 rw [ho] at hO hV
 have hki := ordered_kids ho
 rw [Bool.true_and] at hV
 obtain ⟨R, hR⟩ : ∃ R, R = rightL s.nodes s.nodes 0 (List.replicate s.nodes.length 0) := ⟨_, rfl⟩
 rw [← hR] at hV
 have hnm : ∀ i, (namesM (s.nodes.take i)).length ≤ 1000000 := fun i => by
  have := names_len (s.nodes.take i)
  rw [List.length_take] at this
  omega
 refine VC.toldP ent_34 Tryz.func34 rfl Tryz.ntmps34 fun hb => ?_
 clear hb
 refine walkG ?_
 refine walkC (hO) ?_
 refine walkB ?_
 refine VC.nil 3 9 1 (by rfl) (by trivial) (by rfl) ?_
 refine VC.loop (ι := {x : Nat × List Int // x.1 ≤ s.nodes.length ∧ x.2.length = s.nodes.length ∧ KnOk x.2 ∧ rightL s.nodes (s.nodes.drop x.1) x.1 x.2 = R})
  (fun q => [(1, .ref 0 1 0 0), (3, .row 120 (namesM (s.nodes.take q.1.1)).length), (4, .row 72 s.nodes.length), (15, .c (.sl 10 (s.nodes.map NT.cells))), (16, .c (.v (.int .i64 (s.nodes.length : Int)))), (17, .c (.v (.int .i64 (q.1.1 : Int))))])
  (fun q => [(0, ⟨false, 24, 2, [[.c (.sl 10 (s.nodes.map NT.cells)), .c (.v (.int .i64 s.root))]]⟩), (72, ⟨true, 3, 1, rA iPV q.1.2⟩), (120, ⟨true, 9, 1, rA sPV (namesM (s.nodes.take q.1.1))⟩)]) 800 (fun q => s.nodes.length - q.1.1)
  ⟨(0, List.replicate s.nodes.length 0), Nat.zero_le _, by simp, fun x hx => by obtain rfl := (List.mem_replicate.1 hx).2; decide, by rw [List.drop_zero]; exact hR.symm⟩ ?_ ?_
 · simp only [rA_len, rA_sc, rA_rep, List.length_replicate, Weak, eq_self, used_is, sc_any, sc_c, sc_pp, sc_ref, sc_row, sc_agg, sc_fn, ScL, some_imp, List.forall_mem_map, go_sem, Int.reduceBEq, Int.reduceLE, Int.reduceLT, Int.reduceNeg, Nat.reduceAdd, Nat.reduceEqDiff, Nat.reduceLT, Nat.reduceLeDiff, Nat.reduceMul, Nat.reduceSub, reduceCtorEq, ↓reduceIte]
   refine ⟨rfl, rfl, ⟨Nat.le_refl _, Nat.le_refl _⟩, fun e he x hx => ?_⟩
   obtain rfl := (List.mem_replicate.1 he).2
   obtain rfl := List.mem_singleton.1 hx
   exact .c
 clear hR hO
 rintro ⟨⟨i, kn⟩, hi, hk, hko, hR⟩
 simp only [] at hi hk hko hR ⊢
 have hkl : (rA iPV kn).length = s.nodes.length := by rw [rA_len, hk]
 refine walkG ?_
 refine VC.cond (by rfl) (by trivial) (fun hc => ?_) (fun hc => ?_)
 · have hlt : i < s.nodes.length := by simp at hc; omega
   obtain ⟨n, hn⟩ : ∃ n, s.nodes[i]? = some n := ⟨s.nodes[i], List.getElem?_eq_getElem hlt⟩
   have hnp : (s.nodes.map NT.cells)[i]? = some n.cells := by rw [List.getElem?_map, hn]; rfl
   have hw : IntKind.i64.wrap ((i : Int) + 1) = (i : Int) + 1 := wrap64_id (by omega) (by omega)
   have hmem := List.mem_of_getElem? hn
   have hNd := node_told s n (hs n hmem) fun h13 k hk => hki n hmem k (by rw [kidsN, if_neg (by omega), if_neg (by omega), if_pos h13]; exact hk)
   have hNm := named_told n.kind
   have hW := weight_told s hl hs (fun m hm h9 f hf => hki m hm f.type (by rw [kidsN, if_pos h9]; exact List.mem_map.2 ⟨f, hf, rfl⟩)) (s.nodes.length + 1) i kn hlt hk hko (by have := List.count_le_length (a := (0 : Int)) (l := kn); omega)
   obtain ⟨w1, w2, w3, w4, w5⟩ := weighM_ok s.nodes (s.nodes.length + 1) i kn hk hko
   rw [(List.drop_eq_getElem_cons hlt).trans (by rw [(List.getElem?_eq_some_iff.1 hn).2]), rightL] at hR
   obtain ⟨M, hM⟩ : ∃ M, M = weighM s.nodes (s.nodes.length + 1) i kn := ⟨_, rfl⟩
   rw [← hM] at hW hR w1 w2 w3 w4 w5
   clear hM
   simp only [ST.av_eq, scells_mk, NT.av_eq, ncells_mk, List.map_cons, List.map_nil] at hNd hW
   have hkl2 : (rA iPV M.2).length = s.nodes.length := by rw [rA_len, w1]
   have hnl : (rA sPV (namesM (s.nodes.take i))).length = (namesM (s.nodes.take i)).length := rA_len _ _
   have hnt := namesM_take hn
   have hni := hnm i
   cases hnn : nodeM s.nodes n with
   | false =>
     rw [hnn] at hNd hR
     obtain rfl : R = false := hR.symm
     obtain rfl : V = false := hV
     refine walkGF (And.intro hnp (And.intro @ncells_mk hkl)) ?_
     refine walkC (hNd) ?_
     refine walkB ?_
     refine retX Tryz.results34 ?_
     exact .c _
   | true =>
     rw [hnn] at hNd hR
     rw [Bool.true_and] at hR
     refine walkGF (And.intro hnp (And.intro @ncells_mk hkl)) ?_
     refine walkC (hNd) ?_
     refine walkG ?_
     refine walkLF (And.intro hkl @rA_ren) [72] (hW) ?_
     refine walkG ?_
     refine VC.cond (by rfl) (by trivial) (fun hc2 => ?_) (fun hc2 => ?_)
     · have hf : V = false := by
        have : ¬ M.1 ≤ 1000 := by simp at hc2; omega
        rw [hV, ← hR]
        simp [this]
       subst hf
       refine walkG ?_
       refine retX Tryz.results34 ?_
       exact .c _
     have hm1 : M.1 ≤ 1000 := by simp at hc2; omega
     have hR2 : rightL s.nodes (s.nodes.drop (i + 1)) (i + 1) M.2 = R := by
      rw [← hR]
      simp [hm1]
     refine walkGF (hkl2) ?_
     refine walkC (hNm) ?_
     refine walkG ?_
     refine VC.cond (by rfl) (by trivial) (fun hc3 => ?_) (fun hc3 => ?_)
     · rw [if_pos hc3] at hnt
       have hr : rA sPV (namesM (s.nodes.take i)) ++ [[.c (.v (.string (str n.name)))]] = rA sPV (namesM (s.nodes.take (i + 1))) := by
        rw [hnt]
        exact rA_one sPV _ n.name
       have hl2 : (namesM (s.nodes.take (i + 1))).length = (namesM (s.nodes.take i)).length + 1 := by rw [hnt]; simp
       refine walkGF (And.intro hnl (And.intro hr hw)) ?_
       refine .next ⟨(i + 1, M.2), by simp only []; omega, w1, w2, hR2⟩ ?_ (by simp only []; omega)
       refine weakXF (And.intro @rA_len (And.intro @rA_sc (And.intro @rA_ren (And.intro w1 hl2)))) ?_
       exact ⟨cI (by omega), Nat.le_refl _, Nat.le_refl _⟩
     · rw [if_neg (by rw [hc3]; simp), List.append_nil] at hnt
       refine walkGF (hw) ?_
       refine .next ⟨(i + 1, M.2), by simp only []; omega, w1, w2, hR2⟩ ?_ (by simp only []; omega)
       refine weakXF (And.intro @rA_len (And.intro @rA_sc (And.intro @rA_ren (And.intro w1 hnt)))) ?_
       exact ⟨cI (by omega), Nat.le_refl _, Nat.le_refl _⟩
 · have hie : i = s.nodes.length := by simp at hc; omega
   have hf : R = true := by
    rw [← hR, hie, List.drop_length, rightL]
   subst hf
   rw [Bool.true_and] at hV
   have htk : s.nodes.take i = s.nodes := by rw [hie, List.take_length]
   rw [htk]
   have hnm0 := hnm i
   rw [htk] at hnm0
   have hD := different_told (g := 72) (rule := fullM) (namesM s.nodes) (by omega) fun x hx => full_told x (by have := names_sm hs x hx; omega)
   rw [← hV] at hD
   have hrl : (rA sPV (namesM s.nodes)).length = (namesM s.nodes).length := rA_len _ _
   refine walkGF (hrl) ?_
   (refine AO.step fun K hK => ?_; simp only [go_sem, Int.reduceBEq, Int.reduceLE, Int.reduceLT, Int.reduceNeg, Nat.reduceAdd, Nat.reduceEqDiff, Nat.reduceLT, Nat.reduceLeDiff, Nat.reduceMul, Nat.reduceSub, reduceCtorEq, ↓reduceIte, hrl]; (first | refine gsel_go ?_ | skip))
   refine .inr (.inl ⟨.c (.v (.bool V)), [.c (.sl 1 ((namesM s.nodes).map sPV)), .fn (.func 72) [] []], [120], ⟨by simp [AV.pureL, AV.pureB], rfl, fun k x z h5 h6 => ?_, rfl, hD⟩, hK _ _ _ ?_⟩)
   · match k with
     | 0 =>
       obtain rfl := Option.some.inj h5
       obtain rfl := Option.some.inj h6
       exact View.row (B := ⟨true, 9, 1, rA sPV (namesM s.nodes)⟩) (es := (namesM s.nodes).map sPV) rfl rfl hrl (rA_pv _ _)
     | 1 => obtain rfl := Option.some.inj h5; obtain rfl := Option.some.inj h6; exact .same _
     | k + 2 => simp at h5
   clear hK K
   refine walkG ?_
   refine retX Tryz.results34 ?_
   exact .c _

theorem right_nodes {s : ST} (h : rightM s = true) : ∀ n ∈ s.nodes, nodeM s.nodes n = true := by
 have key : ∀ (r : List NT) (p : Nat) (kn : List Int), rightL s.nodes r p kn = true → ∀ n ∈ r, nodeM s.nodes n = true := by
  intro r
  induction r with
  | nil => simp
  | cons x xs ih =>
    intro p kn hr n hn
    rw [rightL] at hr
    simp only [Bool.and_eq_true] at hr
    rcases List.mem_cons.1 hn with rfl | hn
    · exact hr.1
    · exact ih _ _ hr.2.2 n hn
 unfold rightM at h
 simp only [Bool.and_eq_true] at h
 exact key _ _ _ h.2.1

theorem fields_fit {fs : List FT} {D : Nat} (hs : ∀ f ∈ fs, f.sm 2500 ∧ f.dflt.inr ∧ tdeep f.dflt ≤ 61) {X : Nat → JT} (hx : ∀ i, Fit D (X i)) (h61 : 61 ≤ D) : ∀ i, (fieldsJ fs X i).length ≤ i ∧ ∀ x ∈ fieldsJ fs X i, Fit (D + 1) x
 | 0 => ⟨Nat.le_refl _, by simp [fieldsJ]⟩
 | i + 1 => by
   obtain ⟨h1, h2⟩ := fields_fit hs hx h61 i
   rw [fieldsJ]
   cases h : fs[i]? with
   | none => exact ⟨by simp; omega, by simpa using h2⟩
   | some f =>
     obtain ⟨a1, a2, a3⟩ := hs f (List.mem_of_getElem? h)
     refine ⟨by simp; omega, fun x hm => ?_⟩
     rcases List.mem_append.1 hm with hm | hm
     · exact h2 x hm
     · obtain rfl := List.mem_singleton.1 hm
       exact field_fit a1 a2 a3 (hx i) h61
theorem brs_fit {D : Nat} {X : Nat → JT} (hx : ∀ i, Fit D (X i)) : ∀ i, (brsJ X i).length ≤ i ∧ ∀ x ∈ brsJ X i, Fit D x
 | 0 => ⟨Nat.le_refl _, by simp [brsJ]⟩
 | i + 1 => by
   obtain ⟨h1, h2⟩ := brs_fit hx i
   rw [brsJ]
   refine ⟨by simp; omega, fun x hm => ?_⟩
   rcases List.mem_append.1 hm with hm | hm
   · exact h2 x hm
   · obtain rfl := List.mem_singleton.1 hm
     exact hx i
theorem head_len (n : NT) : (headO n).length ≤ 4 := by
 unfold headO
 have := (putO_len [(aType, textJ (wordM n.kind.toNat)), (aName, textJ (lastM n.name)), (aSpace, textJ (spaceM n.name))] (decide (0 < n.aliases.length)) aAliases (textsJ n.aliases)).2
 simpa using this
theorem head_fit {n : NT} (h : n.sm 2500) (D : Nat) : FitO (D + 1) (headO n) := by
 obtain ⟨a1, a2, ⟨a3, a4⟩, _⟩ := h
 have := wordM_short n.kind.toNat
 have := space_len n.name
 have := last_len n.name
 have h0 : FitO (D + 1) [(aType, textJ (wordM n.kind.toNat)), (aName, textJ (lastM n.name)), (aSpace, textJ (spaceM n.name))] :=
  (((FitO.nil (D + 1)).app (k := aType) (by decide) (fit_text (by omega) _)).app (k := aName) (by decide) (fit_text (by omega) _)).app (k := aSpace) (by decide) (fit_text (by omega) _)
 exact h0.put _ (by decide) (fit_texts (by omega) (fun y hy => by have := a4 y hy; omega) D)
theorem node_fit {n : NT} (h : SmallN n) {X : Nat → JT} {D : Nat} (hx : ∀ i, Fit D (X i)) (h61 : 61 ≤ D) : Fit (D + 3) (nodeJ n X) := by
 have hh := head_fit h.sm (D + 1)
 have hl := head_len n
 obtain ⟨a1, a2, ⟨a3, a4⟩, ⟨a5, a6⟩, a7, a8, a9⟩ := h.sm
 have hsy : Fit (D + 2) (textsJ n.symbols) := fit_texts (by omega) (fun y hy => by have := a6 y hy; omega) (D + 1)
 unfold nodeJ
 split
 · obtain ⟨f1, f2⟩ := fields_fit (fun f hf => ⟨a9 f hf, h.inr f hf, h.dp f hf⟩) hx h61 n.fields.length
   exact (hh.app (by decide) (fit_list (by omega) f2)).obj (by simp; omega)
 split
 · exact ((hh.app (k := aSymbols) (by decide) hsy).put _ (k := aDefault) (by decide) (fit_text (by omega) _)).obj (by
    have := (putO_len (headO n ++ [(aSymbols, textsJ n.symbols)]) n.has aDefault (textJ n.dflt)).2
    simp at this
    omega)
 split
 · exact (hh.app (k := aSize) (x := .mk 3 n.size [] [] []) (by decide) ⟨⟨by simp, by simp, by simp, by simp, trivial⟩, ⟨h.sz, trivial⟩, by simp [tdeep]⟩).obj (by simp; omega)
 split
 · obtain ⟨f1, f2⟩ := brs_fit hx n.branches.length
   exact (fit_list (by omega) f2).mono (by omega)
 split
 · exact ((((FitO.nil D).app (k := aType) (by decide) (fit_text (by decide) D)).app (k := aItems) (by decide) (hx 0)).obj (by simp)).mono (by omega)
 split
 · exact ((((FitO.nil D).app (k := aType) (by decide) (fit_text (by decide) D)).app (k := aValues) (by decide) (hx 0)).obj (by simp)).mono (by omega)
 · have := wordM_short n.kind.toNat
   exact fit_text (by omega) _
theorem nmAt_len {ns : List NT} (h : ∀ n ∈ ns, SmallN n) (k : Nat) : (nmAt ns k).length ≤ 2500 := by
 unfold nmAt
 split
 · rename_i n hn
   exact (h n (List.mem_of_getElem? hn)).sm.1
 · simp
theorem fit_zero (D : Nat) : Fit D jzero := ⟨⟨by simp, by simp, by simp, by simp, trivial⟩, ⟨⟨by omega, by omega⟩, trivial⟩, by simp [jzero, tdeep]⟩
theorem tree_fit {ns : List NT} (h : ∀ n ∈ ns, SmallN n) : ∀ d k p, Fit (3 * d + 62) (treeN ns d k p)
 | 0, k, p => by
   have := nmAt_len h k
   exact fit_text (by omega) _
 | d + 1, k, p => by
   have hn := nmAt_len h k
   rw [treeN]
   simp only []
   split
   · exact fit_text (by omega) _
   · split
     · exact fit_text (by simp) _
     · rename_i n hnk
       have := node_fit (h n (List.mem_of_getElem? hnk)) (X := kidJ (treeN ns d) (plN ns d) (kidsN n) (p + 1)) (D := 3 * d + 62) (fun i => by
        unfold kidJ
        split
        · exact tree_fit h d _ _
        · exact fit_zero _) (by omega)
       exact this.mono (by omega)
theorem sumN_shift (X : Nat → Nat) : ∀ n, sumN X (n + 1) = X 0 + sumN (fun i => X (i + 1)) n
 | 0 => by simp [sumN]
 | n + 1 => by
   rw [sumN, sumN_shift X n, sumN]
   omega
theorem kidJ_next (T : Nat → Nat → JT) (F : Nat → Nat → Nat) (k : Int) (ks : List Int) (p i : Nat) : kidJ T F (k :: ks) p (i + 1) = kidJ T F ks (F k.toNat p) i := by
 simp only [kidJ, List.getElem?_cons_succ, List.take_succ_cons, plK]
theorem walkK_wsum {ns : List NT} (h : ∀ n ∈ ns, SmallN n) {d : Nat} (hd : ∀ p, (walkM ns d p).1 = true → wt (treeN ns d p p) + 2000000000000 * p ≤ 2000000000000 * (walkM ns d p).2) : ∀ (ks : List Int) (p q : Nat), walkK ns (walkM ns d) ks p = (true, q) →
  sumN (fun i => wt (kidJ (treeN ns d) (plN ns d) ks p i)) ks.length + 2000000000000 * p ≤ 2000000000000 * q + 15100 * ks.length
 | [], p, q, hw => by
   rw [walkK] at hw
   obtain rfl := (Prod.mk.inj hw).2
   simp [sumN]
 | k :: ks, p, q, hw => by
   obtain ⟨h1, h2⟩ := walkK_stp (pl_place ns d) hw
   have ih := walkK_wsum h hd ks _ q h2
   have e0 : kidJ (treeN ns d) (plN ns d) (k :: ks) p 0 = treeN ns d k.toNat p := rfl
   rw [List.length_cons, sumN_shift, e0]
   simp only [kidJ_next]
   rcases h1.2 with ⟨e, hw⟩ | ⟨hlt, _⟩
   · rw [e] at ih ⊢
     have := hd p hw
     rw [pl_place ns d p hw] at ih ⊢
     omega
   · rw [plN_met ns d _ p hlt] at ih ⊢
     have := nmAt_len h k.toNat
     rw [treeN_met ns d _ p hlt, wt_text]
     omega
theorem tree_sum {ns : List NT} (h : ∀ n ∈ ns, SmallN n) : ∀ (d p : Nat), (walkM ns d p).1 = true → wt (treeN ns d p p) + 2000000000000 * p ≤ 2000000000000 * (walkM ns d p).2
 | 0, p, hw => by rw [walkM] at hw; simp at hw
 | d + 1, p, hw => by
   rw [walkM] at hw ⊢
   cases hn : ns[p]? with
   | none => rw [hn] at hw; simp at hw
   | some n =>
     rw [hn] at hw
     simp only [] at hw ⊢
     rw [treeN_new ns d p n hn]
     obtain ⟨q, hq⟩ : ∃ q, (walkK ns (walkM ns d) (kidsN n) (p + 1)).2 = q := ⟨_, rfl⟩
     rw [hq]
     have hS := h n (List.mem_of_getElem? hn)
     have h1 := walkK_wsum h (tree_sum h d) (kidsN n) (p + 1) q (Prod.ext hw hq)
     have h2 := node_wt hS (kidJ (treeN ns d) (plN ns d) (kidsN n) (p + 1))
     have hkl : (kidsN n).length ≤ 2501 := by
      obtain ⟨a1, a2, ⟨a3, a4⟩, ⟨a5, a6⟩, a7, a8, a9⟩ := hS.sm
      unfold kidsN
      split
      · rw [List.length_map]; omega
      · split
        · simp
        · split
          · omega
          · simp
     omega
theorem treeM_fit {s : ST} (hl : s.nodes.length ≤ 2500) (h : ∀ n ∈ s.nodes, SmallN n) : Fit 200 (treeM s).1 ∧ (tText (treeM s).1).length ≤ 1000000000000000000 := by
 unfold treeM
 split
 · rename_i hr
   have hf := tree_fit h 33 0 0
   split
   · refine ⟨hf.mono (by omega), ?_⟩
     have hO := right_ordered hr
     unfold orderedM at hO
     simp only [Bool.and_eq_true, decide_eq_true_eq] at hO
     obtain ⟨_, hns, hroot, hw, hwe⟩ := hO
     have h1 := tree_sum h 33 0 hw
     have h2 := text_wt _ hf.inr
     rw [hwe] at h1
     simp only []
     omega
   · exact ⟨fit_zero _, by decide⟩
 · exact ⟨fit_zero _, by decide⟩
theorem right_show {s : ST} (h : s.sm 2500) (hr : rightM s = true) : ∀ n ∈ s.nodes, 1 ≤ n.kind ∧ n.kind ≤ 14 := fun n hn => by
 have hN := right_nodes hr n hn
 unfold nodeM at hN
 simp only [Bool.and_eq_true, decide_eq_true_eq] at hN
 exact ⟨hN.1.1, hN.1.2.1⟩
section

def isChr (c : Int) : Bool := decide (0 ≤ c ∧ c ≤ 1114111 ∧ (c < 55296 ∨ 57344 ≤ c))
def uenc (c : Nat) : List UInt8 :=
 if c < 128 then [c.toUInt8] else if c < 2048 then [(192 + c / 64).toUInt8, (128 + c % 64).toUInt8]
 else if c < 65536 then [(224 + c / 4096).toUInt8, (128 + c / 64 % 64).toUInt8, (128 + c % 64).toUInt8]
 else [(240 + c / 262144).toUInt8, (128 + c / 4096 % 64).toUInt8, (128 + c / 64 % 64).toUInt8, (128 + c % 64).toUInt8]
theorem uenc_len (c : Nat) : (uenc c).length ≤ 4 := by
 unfold uenc
 split
 · simp
 · split
   · simp
   · split <;> simp
variable {l : List UInt8} {p : Nat}
def bN (l : List UInt8) (i : Nat) : Nat := (byteAt l i).toNat
theorem bN_lt (l : List UInt8) (i : Nat) : bN l i < 256 := (byteAt l i).toNat_lt
def UForm (l : List UInt8) (p : Nat) (n : Nat) : Prop :=
 (n = 1 ∧ p < l.length ∧ bN l p < 128) ∨
 (n = 2 ∧ p + 1 < l.length ∧ 194 ≤ bN l p ∧ bN l p < 224 ∧ 128 ≤ bN l (p + 1) ∧ bN l (p + 1) < 192) ∨
 (n = 3 ∧ p + 2 < l.length ∧ 224 ≤ bN l p ∧ bN l p < 240 ∧ 128 ≤ bN l (p + 1) ∧ bN l (p + 1) < 192 ∧ 128 ≤ bN l (p + 2) ∧ bN l (p + 2) < 192 ∧ (bN l p = 224 → 160 ≤ bN l (p + 1)) ∧ (bN l p = 237 → bN l (p + 1) ≤ 159)) ∨
 (n = 4 ∧ p + 3 < l.length ∧ 240 ≤ bN l p ∧ bN l p < 245 ∧ 128 ≤ bN l (p + 1) ∧ bN l (p + 1) < 192 ∧ 128 ≤ bN l (p + 2) ∧ bN l (p + 2) < 192 ∧ 128 ≤ bN l (p + 3) ∧ bN l (p + 3) < 192 ∧ (bN l p = 240 → 144 ≤ bN l (p + 1)) ∧ (bN l p = 244 → bN l (p + 1) ≤ 143))
def cvN (l : List UInt8) (p n : Nat) : Int :=
 if n = 1 then (bN l p : Int) else if n = 2 then ((bN l p : Int) - 192) * 64 + ((bN l (p + 1) : Int) - 128)
 else if n = 3 then ((bN l p : Int) - 224) * 4096 + ((bN l (p + 1) : Int) - 128) * 64 + ((bN l (p + 2) : Int) - 128)
 else ((bN l p : Int) - 240) * 262144 + ((bN l (p + 1) : Int) - 128) * 4096 + ((bN l (p + 2) : Int) - 128) * 64 + ((bN l (p + 3) : Int) - 128)
def wtest (l : List UInt8) (p n : Nat) : Bool := isChr (cvN l p n) && (((uenc (cvN l p n).toNat).length == n) && (uenc (cvN l p n).toNat).isPrefixOf (l.drop p))
theorem ustep_zero {i : Nat} : ustep l p i = 0 ↔ p + i < l.length ∧ 128 ≤ bN l (p + i) ∧ bN l (p + i) < 192 ∧ (i = 1 → ulo (byteAt l p) ≤ bN l (p + i) ∧ bN l (p + i) ≤ uhi (byteAt l p)) := by
 unfold ustep ucont usec bN
 by_cases h : p + i < l.length
 · rw [if_pos h]
   simp only [decide_eq_true_eq]
   split
   · rename_i h2; simp only [h, true_and, true_iff]; exact ⟨h2.1.1, h2.1.2, h2.2⟩
   · rename_i h2
     constructor
     · intro h3; omega
     · intro h3; exact absurd ⟨⟨h3.2.1, h3.2.2.1⟩, h3.2.2.2⟩ h2
 · rw [if_neg h]
   constructor
   · intro h3; omega
   · intro h3; exact absurd h3.1 h
theorem ustat_zero {k : Nat} : ustat l p (k + 1) = 0 ↔ ustat l p k = 0 ∧ ustep l p (k + 1) = 0 := by
 simp only [ustat]
 split
 · rename_i h; simp [h]
 · rename_i h; simp [h]
theorem ulo_le (c : UInt8) : (c.toNat = 224 → ulo c = 160) ∧ (c.toNat = 240 → ulo c = 144) ∧ (c.toNat ≠ 224 → c.toNat ≠ 240 → ulo c = 128) := by
 unfold ulo
 refine ⟨fun h => by rw [if_pos h], fun h => by rw [if_neg (by omega), if_pos h], fun h h' => by rw [if_neg h, if_neg h']⟩
theorem uhi_le (c : UInt8) : (c.toNat = 237 → uhi c = 159) ∧ (c.toNat = 244 → uhi c = 143) ∧ (c.toNat ≠ 237 → c.toNat ≠ 244 → uhi c = 191) := by
 unfold uhi
 refine ⟨fun h => by rw [if_pos h], fun h => by rw [if_neg (by omega), if_pos h], fun h h' => by rw [if_neg h, if_neg h']⟩
theorem ufirst_one {c : UInt8} (h : c.toNat < 128) : ufirst c = 1 := by unfold ufirst; rw [if_pos h]
theorem ufirst_two {c : UInt8} (h : 194 ≤ c.toNat) (h' : c.toNat < 224) : ufirst c = 2 := by unfold ufirst; rw [if_neg (by omega), if_neg (by omega), if_pos h']
theorem ufirst_three {c : UInt8} (h : 224 ≤ c.toNat) (h' : c.toNat < 240) : ufirst c = 3 := by unfold ufirst; rw [if_neg (by omega), if_neg (by omega), if_neg (by omega), if_pos h']
theorem ufirst_four {c : UInt8} (h : 240 ≤ c.toNat) (h' : c.toNat < 245) : ufirst c = 4 := by unfold ufirst; rw [if_neg (by omega), if_neg (by omega), if_neg (by omega), if_neg (by omega), if_pos h']
theorem ufirst_none {c : UInt8} (h : (128 ≤ c.toNat ∧ c.toNat < 194) ∨ 245 ≤ c.toNat) : ufirst c = 0 := by
 unfold ufirst
 rcases h with h | h
 · rw [if_neg (by omega), if_pos (by omega)]
 · rw [if_neg (by omega), if_neg (by omega), if_neg (by omega), if_neg (by omega), if_neg (by omega)]
theorem form_uerr {n : Nat} (h : UForm l p n) : uerr l p = 0 ∧ ulen l p = n := by
 have hlo := ulo_le (byteAt l p)
 have hhi := uhi_le (byteAt l p)
 unfold UForm at h
 unfold uerr ulen
 rcases h with ⟨rfl, h0, h1⟩ | ⟨rfl, h0, h1, h2, h3, h4⟩ | ⟨rfl, h0, h1, h2, h3, h4, h5, h6, h7, h8⟩ | ⟨rfl, h0, h1, h2, h3, h4, h5, h6, h7, h8, h9, h10⟩
 · rw [if_pos h0, ufirst_one h1]
   exact ⟨rfl, rfl⟩
 · rw [if_pos (by omega), ufirst_two h1 h2]
   refine ⟨?_, rfl⟩
   rw [if_neg (by decide)]
   have e1 : ustep l p 1 = 0 := ustep_zero.2 ⟨h0, h3, h4, fun _ => by unfold bN at *; rw [hlo.2.2 (by omega) (by omega), hhi.2.2 (by omega) (by omega)]; omega⟩
   exact ustat_zero.2 ⟨rfl, e1⟩
 · rw [if_pos (by omega), ufirst_three h1 h2]
   refine ⟨?_, rfl⟩
   rw [if_neg (by decide)]
   have e1 : ustep l p 1 = 0 := ustep_zero.2 ⟨by omega, h3, h4, fun _ => by
    unfold bN at *
    constructor
    · by_cases q : (byteAt l p).toNat = 224
      · rw [hlo.1 q]; exact h7 q
      · rw [hlo.2.2 q (by omega)]; exact h3
    · by_cases q : (byteAt l p).toNat = 237
      · rw [hhi.1 q]; exact h8 q
      · rw [hhi.2.2 q (by omega)]; omega⟩
   have e2 : ustep l p 2 = 0 := ustep_zero.2 ⟨by omega, h5, h6, fun q => by omega⟩
   exact ustat_zero.2 ⟨ustat_zero.2 ⟨rfl, e1⟩, e2⟩
 · rw [if_pos (by omega), ufirst_four h1 h2]
   refine ⟨?_, rfl⟩
   rw [if_neg (by decide)]
   have e1 : ustep l p 1 = 0 := ustep_zero.2 ⟨by omega, h3, h4, fun _ => by
    unfold bN at *
    constructor
    · by_cases q : (byteAt l p).toNat = 240
      · rw [hlo.2.1 q]; exact h9 q
      · rw [hlo.2.2 (by omega) q]; exact h3
    · by_cases q : (byteAt l p).toNat = 244
      · rw [hhi.2.1 q]; exact h10 q
      · rw [hhi.2.2 (by omega) q]; omega⟩
   have e2 : ustep l p 2 = 0 := ustep_zero.2 ⟨by omega, h5, h6, fun q => by omega⟩
   have e3 : ustep l p 3 = 0 := ustep_zero.2 ⟨by omega, h7, h8, fun q => by omega⟩
   exact ustat_zero.2 ⟨ustat_zero.2 ⟨ustat_zero.2 ⟨rfl, e1⟩, e2⟩, e3⟩
theorem uerr_form (h : uerr l p = 0) : UForm l p (ulen l p) := by
 have hlo := ulo_le (byteAt l p)
 have hhi := uhi_le (byteAt l p)
 unfold uerr at h
 unfold ulen UForm
 by_cases hp : p < l.length
 · rw [if_pos hp] at h
   have hb := bN_lt l p
   unfold bN at hb
   have hr : (byteAt l p).toNat < 128 ∨ ((128 ≤ (byteAt l p).toNat ∧ (byteAt l p).toNat < 194) ∨ 245 ≤ (byteAt l p).toNat) ∨ (194 ≤ (byteAt l p).toNat ∧ (byteAt l p).toNat < 224) ∨ (224 ≤ (byteAt l p).toNat ∧ (byteAt l p).toNat < 240) ∨ (240 ≤ (byteAt l p).toNat ∧ (byteAt l p).toNat < 245) := by omega
   rcases hr with hr | hr | hr | hr | hr
   · rw [ufirst_one hr]; exact .inl ⟨rfl, hp, hr⟩
   · rw [ufirst_none hr, if_pos rfl] at h; omega
   · rw [ufirst_two hr.1 hr.2, if_neg (by decide)] at h
     rw [ufirst_two hr.1 hr.2]
     have e1 := ustep_zero.1 (ustat_zero.1 h).2
     exact .inr (.inl ⟨rfl, e1.1, hr.1, hr.2, e1.2.1, e1.2.2.1⟩)
   · rw [ufirst_three hr.1 hr.2, if_neg (by decide)] at h
     rw [ufirst_three hr.1 hr.2]
     have h2 := ustat_zero.1 h
     have e2 := ustep_zero.1 h2.2
     have e1 := ustep_zero.1 (ustat_zero.1 h2.1).2
     have e1' := e1.2.2.2 rfl
     refine .inr (.inr (.inl ⟨rfl, e2.1, hr.1, hr.2, e1.2.1, e1.2.2.1, e2.2.1, e2.2.2.1, fun q => ?_, fun q => ?_⟩))
     · rw [hlo.1 q] at e1'; exact e1'.1
     · rw [hhi.1 q] at e1'; exact e1'.2
   · rw [ufirst_four hr.1 hr.2, if_neg (by decide)] at h
     rw [ufirst_four hr.1 hr.2]
     have h3 := ustat_zero.1 h
     have e3 := ustep_zero.1 h3.2
     have h2 := ustat_zero.1 h3.1
     have e2 := ustep_zero.1 h2.2
     have e1 := ustep_zero.1 (ustat_zero.1 h2.1).2
     have e1' := e1.2.2.2 rfl
     refine .inr (.inr (.inr ⟨rfl, e3.1, hr.1, hr.2, e1.2.1, e1.2.2.1, e2.2.1, e2.2.2.1, e3.2.1, e3.2.2.1, fun q => ?_, fun q => ?_⟩))
     · rw [hlo.2.1 q] at e1'; exact e1'.1
     · rw [hhi.2.1 q] at e1'; exact e1'.2
 · rw [if_neg hp] at h; omega
theorem drop_cons {l : List UInt8} {p : Nat} (h : p < l.length) : l.drop p = byteAt l p :: l.drop (p + 1) := by
 rw [List.drop_eq_getElem_cons h]
 unfold byteAt
 rw [List.getElem?_eq_getElem h]
 rfl
theorem pre_iff {l : List UInt8} : ∀ (xs : List UInt8) (p : Nat), xs ≠ [] → (xs.isPrefixOf (l.drop p) = true ↔ p + xs.length ≤ l.length ∧ ∀ i, i < xs.length → byteAt l (p + i) = xs[i]?.getD 0) := by
 intro xs
 induction xs with
 | nil => intro p h; exact absurd rfl h
 | cons x xs ih =>
   intro p _
   by_cases hp : p < l.length
   · rw [drop_cons hp, List.isPrefixOf_cons_cons, Bool.and_eq_true, beq_iff_eq]
     by_cases hx : xs = []
     · subst hx
       simp
       constructor
       · intro h; exact ⟨by omega, h.symm⟩
       · intro h; exact h.2.symm
     · rw [ih (p + 1) hx]
       constructor
       · rintro ⟨h1, h2, h3⟩
         refine ⟨by simp; omega, fun i hi => ?_⟩
         cases i with
         | zero => simpa using h1.symm
         | succ i =>
           have := h3 i (by simp at hi; omega)
           rw [show p + (i + 1) = p + 1 + i from by omega, this]
           simp
       · rintro ⟨h1, h2⟩
         refine ⟨by simpa using (h2 0 (by simp)).symm, by simp at h1; omega, fun i hi => ?_⟩
         have := h2 (i + 1) (by simp; omega)
         rw [show p + 1 + i = p + (i + 1) from by omega, this]
         simp
   · rw [List.drop_eq_nil_of_le (by omega)]
     constructor
     · intro h; simp at h
     · intro h; simp at h; omega
theorem u8_eq {c : UInt8} {n : Nat} (h : c.toNat = n) (hn : n < 256) : c = n.toUInt8 := by
 apply UInt8.toNat_inj.1
 simp
 omega
theorem u8_ne {c : UInt8} {n : Nat} (h : c = n.toUInt8) (hn : n < 256) : c.toNat = n := by
 rw [h]
 simp
 omega
theorem isChr_iff {c : Int} : isChr c = true ↔ 0 ≤ c ∧ c ≤ 1114111 ∧ (c < 55296 ∨ 57344 ≤ c) := by unfold isChr; simp
theorem form_test {n : Nat} (h : UForm l p n) : wtest l p n = true := by
 unfold UForm at h
 unfold wtest
 rw [Bool.and_eq_true, Bool.and_eq_true, isChr_iff, beq_iff_eq]
 rcases h with ⟨rfl, h0, h1⟩ | ⟨rfl, h0, h1, h2, h3, h4⟩ | ⟨rfl, h0, h1, h2, h3, h4, h5, h6, h7, h8⟩ | ⟨rfl, h0, h1, h2, h3, h4, h5, h6, h7, h8, h9, h10⟩
 · have hc : cvN l p 1 = (bN l p : Int) := rfl
   obtain ⟨c, e⟩ : ∃ c, c = (cvN l p 1).toNat := ⟨_, rfl⟩
   have hu : uenc c = [c.toUInt8] := by unfold uenc; rw [if_pos (by omega)]
   rw [← e, hu]
   refine ⟨by omega, rfl, (pre_iff _ p (by simp)).2 ⟨by simp; omega, fun i hi => ?_⟩⟩
   simp at hi
   subst hi
   exact u8_eq (by unfold bN at *; simp; omega) (by omega)
 · have hc : cvN l p 2 = ((bN l p : Int) - 192) * 64 + ((bN l (p + 1) : Int) - 128) := rfl
   obtain ⟨c, e⟩ : ∃ c, c = (cvN l p 2).toNat := ⟨_, rfl⟩
   have hu : uenc c = [(192 + c / 64).toUInt8, (128 + c % 64).toUInt8] := by unfold uenc; rw [if_neg (by omega), if_pos (by omega)]
   rw [← e, hu]
   refine ⟨by omega, rfl, (pre_iff _ p (by simp)).2 ⟨by simp; omega, fun i hi => ?_⟩⟩
   simp at hi
   have hi : i = 0 ∨ i = 1 := by omega
   rcases hi with rfl | rfl
   · exact u8_eq (by unfold bN at *; simp; omega) (by omega)
   · exact u8_eq (by unfold bN at *; omega) (by omega)
 · have hc : cvN l p 3 = ((bN l p : Int) - 224) * 4096 + ((bN l (p + 1) : Int) - 128) * 64 + ((bN l (p + 2) : Int) - 128) := rfl
   obtain ⟨c, e⟩ : ∃ c, c = (cvN l p 3).toNat := ⟨_, rfl⟩
   have hu : uenc c = [(224 + c / 4096).toUInt8, (128 + c / 64 % 64).toUInt8, (128 + c % 64).toUInt8] := by unfold uenc; rw [if_neg (by omega), if_neg (by omega), if_pos (by omega)]
   rw [← e, hu]
   refine ⟨by omega, rfl, (pre_iff _ p (by simp)).2 ⟨by simp; omega, fun i hi => ?_⟩⟩
   simp at hi
   have hi : i = 0 ∨ i = 1 ∨ i = 2 := by omega
   rcases hi with rfl | rfl | rfl
   · exact u8_eq (by unfold bN at *; simp; omega) (by omega)
   · exact u8_eq (by unfold bN at *; omega) (by omega)
   · exact u8_eq (by unfold bN at *; omega) (by omega)
 · have hc : cvN l p 4 = ((bN l p : Int) - 240) * 262144 + ((bN l (p + 1) : Int) - 128) * 4096 + ((bN l (p + 2) : Int) - 128) * 64 + ((bN l (p + 3) : Int) - 128) := rfl
   obtain ⟨c, e⟩ : ∃ c, c = (cvN l p 4).toNat := ⟨_, rfl⟩
   have hu : uenc c = [(240 + c / 262144).toUInt8, (128 + c / 4096 % 64).toUInt8, (128 + c / 64 % 64).toUInt8, (128 + c % 64).toUInt8] := by unfold uenc; rw [if_neg (by omega), if_neg (by omega), if_neg (by omega)]
   rw [← e, hu]
   refine ⟨by omega, rfl, (pre_iff _ p (by simp)).2 ⟨by simp; omega, fun i hi => ?_⟩⟩
   simp at hi
   have hi : i = 0 ∨ i = 1 ∨ i = 2 ∨ i = 3 := by omega
   rcases hi with rfl | rfl | rfl | rfl
   · exact u8_eq (by unfold bN at *; simp; omega) (by omega)
   · exact u8_eq (by unfold bN at *; omega) (by omega)
   · exact u8_eq (by unfold bN at *; omega) (by omega)
   · exact u8_eq (by unfold bN at *; omega) (by omega)
theorem uenc_cases (c : Nat) : (c < 128 ∧ uenc c = [c.toUInt8]) ∨ (128 ≤ c ∧ c < 2048 ∧ uenc c = [(192 + c / 64).toUInt8, (128 + c % 64).toUInt8]) ∨
  (2048 ≤ c ∧ c < 65536 ∧ uenc c = [(224 + c / 4096).toUInt8, (128 + c / 64 % 64).toUInt8, (128 + c % 64).toUInt8]) ∨ (65536 ≤ c ∧ uenc c = [(240 + c / 262144).toUInt8, (128 + c / 4096 % 64).toUInt8, (128 + c / 64 % 64).toUInt8, (128 + c % 64).toUInt8]) := by
 unfold uenc
 by_cases h1 : c < 128
 · exact .inl ⟨h1, if_pos h1⟩
 by_cases h2 : c < 2048
 · exact .inr (.inl ⟨by omega, h2, by rw [if_neg h1, if_pos h2]⟩)
 by_cases h3 : c < 65536
 · exact .inr (.inr (.inl ⟨by omega, h3, by rw [if_neg h1, if_neg h2, if_pos h3]⟩))
 · exact .inr (.inr (.inr ⟨by omega, by rw [if_neg h1, if_neg h2, if_neg h3]⟩))
theorem enc_form {c : Nat} (hc : isChr (c : Int) = true) (h : (uenc c).isPrefixOf (l.drop p) = true) : UForm l p (uenc c).length := by
 have hch := isChr_iff.1 hc
 unfold UForm
 rcases uenc_cases c with ⟨h1, e⟩ | ⟨h1, h2, e⟩ | ⟨h1, h2, e⟩ | ⟨h1, e⟩
 · rw [e] at h ⊢
   obtain ⟨q1, q2⟩ := (pre_iff _ p (by simp)).1 h
   have b0 := u8_ne (q2 0 (by simp)) (by omega)
   simp at q1 b0
   refine .inl ⟨rfl, by omega, by unfold bN; omega⟩
 · rw [e] at h ⊢
   obtain ⟨q1, q2⟩ := (pre_iff _ p (by simp)).1 h
   have b0 := u8_ne (q2 0 (by simp)) (by omega)
   have b1 := u8_ne (q2 1 (by simp)) (by omega)
   simp only [Nat.add_zero, List.length_cons, List.length_nil] at q1 b0
   refine .inr (.inl ⟨rfl, by omega, ?_⟩)
   unfold bN
   omega
 · rw [e] at h ⊢
   obtain ⟨q1, q2⟩ := (pre_iff _ p (by simp)).1 h
   have b0 := u8_ne (q2 0 (by simp)) (by omega)
   have b1 := u8_ne (q2 1 (by simp)) (by omega)
   have b2 := u8_ne (q2 2 (by simp)) (by omega)
   simp only [Nat.add_zero, List.length_cons, List.length_nil] at q1 b0
   refine .inr (.inr (.inl ⟨rfl, by omega, ?_⟩))
   unfold bN
   omega
 · rw [e] at h ⊢
   obtain ⟨q1, q2⟩ := (pre_iff _ p (by simp)).1 h
   have b0 := u8_ne (q2 0 (by simp)) (by omega)
   have b1 := u8_ne (q2 1 (by simp)) (by omega)
   have b2 := u8_ne (q2 2 (by simp)) (by omega)
   have b3 := u8_ne (q2 3 (by simp)) (by omega)
   simp only [Nat.add_zero, List.length_cons, List.length_nil] at q1 b0
   refine .inr (.inr (.inr ⟨rfl, by omega, ?_⟩))
   unfold bN
   omega
theorem test_form {n : Nat} (h : wtest l p n = true) : UForm l p n := by
 unfold wtest at h
 rw [Bool.and_eq_true, Bool.and_eq_true, beq_iff_eq] at h
 obtain ⟨h1, h2, h3⟩ := h
 have h0 := isChr_iff.1 h1
 have := enc_form (l := l) (p := p) (c := (cvN l p n).toNat) (by rw [show (((cvN l p n).toNat : Nat) : Int) = cvN l p n from by omega]; exact h1) h3
 rwa [h2] at this
def wholeV (l : List UInt8) (p : Nat) : Int := if uerr l p = 0 then cvN l p (ulen l p) else -1
theorem wtest_n {n : Nat} (h : wtest l p n = true) : wholeV l p = cvN l p n := by
 obtain ⟨h1, h2⟩ := form_uerr (test_form h)
 unfold wholeV
 rw [if_pos h1, h2]
theorem wtest_none (h1 : wtest l p 1 = false) (h2 : wtest l p 2 = false) (h3 : wtest l p 3 = false) (h4 : wtest l p 4 = false) : wholeV l p = -1 := by
 unfold wholeV
 rw [if_neg]
 intro he
 have hf := uerr_form he
 have ht := form_test hf
 have hn : ulen l p = 1 ∨ ulen l p = 2 ∨ ulen l p = 3 ∨ ulen l p = 4 := by unfold UForm at hf; omega
 rcases hn with hn | hn | hn | hn <;> rw [hn] at ht <;> simp_all
theorem wtest_long {n : Nat} (h : l.length < p + n) : wtest l p n = false ∨ n = 0 := by
 by_cases h0 : n = 0
 · exact .inr h0
 · left
   cases ht : wtest l p n with
   | false => rfl
   | true =>
     have := test_form ht
     unfold UForm at this
     omega
theorem wholeV_len (h : 0 ≤ wholeV l p) : uerr l p = 0 ∧ isChr (wholeV l p) = true ∧ (uenc (wholeV l p).toNat).length = ulen l p := by
 unfold wholeV at h ⊢
 by_cases he : uerr l p = 0
 · rw [if_pos he] at h ⊢
   have ht := form_test (uerr_form he)
   unfold wtest at ht
   rw [Bool.and_eq_true, Bool.and_eq_true, beq_iff_eq] at ht
   exact ⟨he, ht.1, ht.2.1⟩
 · rw [if_neg he] at h
   omega
theorem notest {m : List UInt8} {n : Nat} (h : ∀ k, 1 ≤ k → k < n → wtest m 0 k = false) (hn : wtest m 0 n = false) : ∀ k, 1 ≤ k → k < n + 1 → wtest m 0 k = false := by
 intro k h1 h2
 rcases Nat.lt_or_ge k n with h3 | h3
 · exact h k h1 h3
 · obtain rfl : k = n := by omega
   exact hn
theorem byteAt_drop (l : List UInt8) (p i : Nat) : byteAt (l.drop p) i = byteAt l (p + i) := by
 unfold byteAt
 rw [List.getElem?_drop]
theorem bN_drop (l : List UInt8) (p i : Nat) : bN (l.drop p) i = bN l (p + i) := by unfold bN; rw [byteAt_drop]
theorem form_drop {l : List UInt8} {p n : Nat} : UForm (l.drop p) 0 n ↔ UForm l p n := by
 have e : ∀ k, (k < l.length - p) = (p + k < l.length) := fun k => propext (by omega)
 unfold UForm
 simp only [bN_drop, List.length_drop, Nat.zero_add, Nat.add_zero, e]
theorem cvN_drop (l : List UInt8) (p n : Nat) : cvN (l.drop p) 0 n = cvN l p n := by
 unfold cvN
 simp only [bN_drop, Nat.zero_add, Nat.add_zero]
theorem wholeV_drop (l : List UInt8) (p : Nat) : wholeV (l.drop p) 0 = wholeV l p := by
 by_cases h : uerr l p = 0
 · have hf := uerr_form h
   have h2 := form_uerr (form_drop.2 hf)
   unfold wholeV
   rw [if_pos h, if_pos h2.1, h2.2, cvN_drop]
 · have h2 : uerr (l.drop p) 0 ≠ 0 := fun e => h (form_uerr (form_drop.1 (uerr_form e))).1
   unfold wholeV
   rw [if_neg h, if_neg h2]
def fillL (j : Nat) : List UInt8 := if j = 0 then [128, 128, 128] else if j = 1 then [191, 191, 191] else if j = 2 then [160, 128, 128] else if j = 3 then [144, 128, 128] else if j = 4 then [143, 191, 191] else [159, 191, 191]
theorem fillL_len (j : Nat) : (fillL j).length = 3 := by
 unfold fillL
 repeat' split
 all_goals rfl
end

def byP (b : UInt8) : List PV := [.v (.int .u8 (b.toNat : Int))]
theorem bpvOk (l : List UInt8) : bytesOk (bytePV l) = True := eq_true (bytePV_ok l)
theorem rchar_told (c : Int) : Told Tryz.prog 247 [.c (.v (.int .i64 c))] (.c (.v (.bool (isChr c)))) := by
 obtain ⟨V, hV⟩ : ∃ V, V = isChr c := ⟨_, rfl⟩
 rw [← hV]
 have hv : V = ((decide (c ≥ 0) && decide (c ≤ 1114111)) && (decide (c < 55296) || decide (c > 57343))) := by
  rw [hV, isChr, Bool.eq_iff_iff]
  simp
  omega
 clear hV
 replace hv := Lib.hid hv
 refine VC.toldP ent_247 Tryz.func247 rfl Tryz.ntmps247 fun hb => ?_
 clear hb
 refine walkG ?_
 refine retX Tryz.results247 ?_
 rw [hv.out]
 exact .c _
theorem rput_told (c : Nat) (hc : c ≤ 1114111) : Told Tryz.prog 240 [.c (.v (.int .i64 (c : Int)))] (.c (.sl 1 (bytePV (uenc c)))) := by
 have hU : ∀ (z : Int) (n : Nat), z = (n : Int) → n < 256 → IntKind.u8.wrap z = ((n.toUInt8).toNat : Int) := fun z n h1 h2 => by
  rw [IntKind.wrap_u8, h1]
  simp
 have hQ : ∀ (a b : Nat), a ≤ 1114111 → IntKind.i64.wrap (Int.tdiv (a : Int) (b : Int)) = ((a / b : Nat) : Int) := fun a b h => by
  have e : Int.tdiv (a : Int) (b : Int) = ((a / b : Nat) : Int) := by simp [Int.tdiv]
  have := Nat.div_le_self a b
  rw [e]
  generalize a / b = q at this
  exact wrap64_id (by omega) (by omega)
 have hR : ∀ (a b : Nat), Int.tmod (a : Int) (b : Int) = ((a % b : Nat) : Int) := fun a b => by simp [Int.tmod]
 have hW : ∀ (k n : Nat), k + n < 256 → IntKind.u8.wrap (IntKind.i64.wrap ((k : Int) + (n : Int))) = (((k + n).toUInt8).toNat : Int) := fun k n h => by
  rw [wrap64_id (by omega) (by omega)]
  exact hU _ (k + n) (by omega) h
 have q1 := hQ c 64 hc
 have q2 := hQ c 4096 hc
 have q3 := hQ c 262144 hc
 have r1 := hR c 64
 have r2 := hR (c / 64) 64
 have r3 := hR (c / 4096) 64
 by_cases h1 : c < 128
 · have hE : uenc c = [c.toUInt8] := by rw [uenc, if_pos h1]
   have e1 : decide ((c : Int) < 128) = true := by simp; omega
   rw [hE]
   refine VC.toldP ent_240 Tryz.func240 rfl Tryz.ntmps240 fun hb => ?_
   clear hb
   refine walkBF (e1) ?_
   rw [hU (c : Int) c rfl (by omega)]
   refine retX Tryz.results240 ?_
   exact frz_rA (f := byP) (l := [c.toUInt8]) rfl rfl rfl (by simp [byP])
 have e1 : decide ((c : Int) < 128) = false := by simp; omega
 by_cases h2 : c < 2048
 · have hE : uenc c = [(192 + c / 64).toUInt8, (128 + c % 64).toUInt8] := by rw [uenc, if_neg h1, if_pos h2]
   have e2 : decide ((c : Int) < 2048) = true := by simp; omega
   rw [hE]
   refine VC.toldP ent_240 Tryz.func240 rfl Tryz.ntmps240 fun hb => ?_
   clear hb
   refine walkBF (And.intro e1 e2) ?_
   rw [show (64 : Int) = ((64 : Nat) : Int) from rfl, q1, r1, show (192 : Int) = ((192 : Nat) : Int) from rfl, show (128 : Int) = ((128 : Nat) : Int) from rfl, hW 192 _ (by omega), hW 128 _ (by omega)]
   refine retX Tryz.results240 ?_
   exact frz_rA (f := byP) (l := [(192 + c / 64).toUInt8, (128 + c % 64).toUInt8]) rfl rfl rfl (by simp [byP])
 have e2 : decide ((c : Int) < 2048) = false := by simp; omega
 by_cases h3 : c < 65536
 · have hE : uenc c = [(224 + c / 4096).toUInt8, (128 + c / 64 % 64).toUInt8, (128 + c % 64).toUInt8] := by rw [uenc, if_neg h1, if_neg h2, if_pos h3]
   have e3 : decide ((c : Int) < 65536) = true := by simp; omega
   rw [hE]
   refine VC.toldP ent_240 Tryz.func240 rfl Tryz.ntmps240 fun hb => ?_
   clear hb
   refine walkBF (And.intro e1 (And.intro e2 e3)) ?_
   rw [show (64 : Int) = ((64 : Nat) : Int) from rfl, show (4096 : Int) = ((4096 : Nat) : Int) from rfl, q1, q2, r1, r2, show (224 : Int) = ((224 : Nat) : Int) from rfl, show (128 : Int) = ((128 : Nat) : Int) from rfl, hW 224 _ (by omega), hW 128 (c / 64 % 64) (by omega), hW 128 (c % 64) (by omega)]
   refine retX Tryz.results240 ?_
   exact frz_rA (f := byP) (l := [(224 + c / 4096).toUInt8, (128 + c / 64 % 64).toUInt8, (128 + c % 64).toUInt8]) rfl rfl rfl (by simp [byP])
 · have hE : uenc c = [(240 + c / 262144).toUInt8, (128 + c / 4096 % 64).toUInt8, (128 + c / 64 % 64).toUInt8, (128 + c % 64).toUInt8] := by rw [uenc, if_neg h1, if_neg h2, if_neg h3]
   have e3 : decide ((c : Int) < 65536) = false := by simp; omega
   rw [hE]
   refine VC.toldP ent_240 Tryz.func240 rfl Tryz.ntmps240 fun hb => ?_
   clear hb
   refine walkBF (And.intro e1 (And.intro e2 e3)) ?_
   rw [show (64 : Int) = ((64 : Nat) : Int) from rfl, show (4096 : Int) = ((4096 : Nat) : Int) from rfl, show (262144 : Int) = ((262144 : Nat) : Int) from rfl, q1, q2, q3, r1, r2, r3, show (240 : Int) = ((240 : Nat) : Int) from rfl, show (128 : Int) = ((128 : Nat) : Int) from rfl, hW 240 _ (by omega), hW 128 (c / 64 % 64) (by omega), hW 128 (c % 64) (by omega), hW 128 (c / 4096 % 64) (by omega)]
   refine retX Tryz.results240 ?_
   exact frz_rA (f := byP) (l := [(240 + c / 262144).toUInt8, (128 + c / 4096 % 64).toUInt8, (128 + c / 64 % 64).toUInt8, (128 + c % 64).toUInt8]) rfl rfl rfl (by simp [byP])
theorem rstarts_told (b a : List UInt8) (hb1 : b.length ≤ 1000000) (ha1 : a.length ≤ 1000000) : Told Tryz.prog 248 [.c (.sl 1 (bytePV b)), .c (.sl 1 (bytePV a))] (.c (.v (.bool (a.isPrefixOf b)))) := by
 have la : (bytePV a).length = a.length := by simp [bytePV]
 have lb : (bytePV b).length = b.length := by simp [bytePV]
 have tb : (bytePV b).take a.length = bytePV (b.take a.length) := by simp [bytePV, List.map_take]
 by_cases h : a.length ≤ b.length
 · have hv : a.isPrefixOf b = (b.take a.length == a) := by
    rw [Bool.eq_iff_iff, List.isPrefixOf_iff_prefix, List.prefix_iff_eq_take, beq_iff_eq]
    exact ⟨fun e => e.symm, fun e => e.symm⟩
   have e1 : decide ((a.length : Int) ≤ (b.length : Int)) = true := by simp; omega
   have s1 : (⟨(b.take a.length).toArray⟩ : ByteArray).toList = b.take a.length := str_toList _
   have s2 : (⟨a.toArray⟩ : ByteArray).toList = a := str_toList _
   rw [hv]
   refine VC.toldP ent_248 Tryz.func248 rfl Tryz.ntmps248 fun hb => ?_
   clear hb
   (repeat (first | refine pass ?_ | refine VC.region (by rfl) (by rfl) ?_ | (refine AO.step fun K hK => ?_; simp only [la, lb, e1, tb, bytesOf_pv, bpvOk, bstr, s1, s2, go_sem, Int.reduceBEq, Int.reduceLE, Int.reduceLT, Int.reduceNeg, Nat.reduceAdd, Nat.reduceEqDiff, Nat.reduceLT, Nat.reduceLeDiff, Nat.reduceMul, Nat.reduceSub, reduceCtorEq, ↓reduceIte]; (first | refine gsel_skip ?_ | refine gsel_go ?_ | skip); (first | refine hK _ _ _ ?_ | refine ⟨by first | omega | exact ⟨_, rfl, rfl⟩ | exact fun _ => ⟨_, rfl, rfl⟩ | (intro h; simp only [la, lb, e1, tb, bytesOf_pv, bpvOk, bstr, s1, s2, h, true_and]; omega) | (clear hK; intro h; simp_all <;> omega), hK _ _ _ ?_⟩); clear hK K) | refine VC.draw mixP (by rfl) (by rfl) ?_ | refine ⟨okd_of (by kernel_rfl), ?_⟩ | refine BQ.other (by decide) ?_ | refine VC.seq ?_ | refine AO.nil ?_ | refine VC.block ?_))
   refine retX Tryz.results248 ?_
   exact .c _
 · have hv : a.isPrefixOf b = false := by
    rw [Bool.eq_false_iff]
    intro e
    exact h (List.isPrefixOf_iff_prefix.1 e).length_le
   have e1 : decide ((a.length : Int) ≤ (b.length : Int)) = false := by simp; omega
   rw [hv]
   refine VC.toldP ent_248 Tryz.func248 rfl Tryz.ntmps248 fun hb => ?_
   clear hb
   refine walkBF (And.intro la (And.intro lb e1)) ?_
   refine retX Tryz.results248 ?_
   exact .c _
end
end Go.Proofs.YtepneflbhpidbaaGreatDoor
