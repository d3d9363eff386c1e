/- Texts that lead to the law SkipReads, joined. -/
import Derived.Test.YtepneflbhpidbaaGreatDoorPkSkipReadsE
import Derived.Test.YtepneflbhpidbaaGreatDoorPkSkipReadsC
import Derived.Test.YtepneflbhpidbaaGreatDoorPkSkipReadsB
import Derived.Test.YtepneflbhpidbaaGreatDoorPkSkipReadsA
import Derived.Test.YtepneflbhpidbaaGreatDoorPkSkipReadsD
import Derived.Test.YtepneflbhpidbaaGreatDoorRows
import Derived.MakeChecks
import Derived.LaidMore
import Derived.OpenShut
namespace Go.Proofs.YtepneflbhpidbaaGreatDoor
set_option maxRecDepth 100000
set_option maxHeartbeats 6400000
open Go.RowKit
set_option linter.unusedVariables false
set_option linter.unusedSimpArgs false
section
attribute [local go_sem] opx opE ev okx gcond bnd okO AV.get AV.okb cAV upd_at putd_some putd_none wrs_nil wrs_cons look_nil look_cons st argT_at bpick_and bpick_or bpick_true bpick_false binV binI binS binVOk binOk isShift binSOk unV unVOk loadV loadP cellsA zeroA Blkd.len setE grown moreA moreR moreOk eqRes pv fillA fillE putSeg AV.cellish AV.pureL AV.pureB lentL_is ex_some AV.ren AV.renL renL_c Blkd.ren rho wrM renN lentOk rhoE keepM endOk tyA_2 tyA_3 tyA_4 tyA_5 tyA_6 tyA_7 tyA_8 tyA_9 tyA_10 tyA_11 tyA_12 tyA_13 tyA_14 tyA_15 tyA_16 tyA_17 tyA_18 tyA_19 tyA_21 tyA_22 tyA_23 tyA_24 tyA_29 tyA_30 tyA_31 tyA_32 tyA_33 tyA_34 tyA_35 tyA_36 tyA_37 tyA_38 tyA_39 tyA_40 tyA_41 tyA_42 tyA_43 tyA_48 tyA_72 tyA_76 tyA_85 tyA_86 tyA_87 tyA_88 tyA_97 tyA_100 tyA_101 tyA_102 tyA_103 tyA_104 tyA_105 tyA_106 tyA_128 tyA_137 tyA_138 tyA_139 tyA_140 tyA_141 tyA_142 tyA_147 tyA_148 tyA_149 tyA_167 tyA_168 tyA_169 tyA_170 tyA_172 tyA_176 tyA_177 tyA_178 tyA_186 tyA_196 tyA_231 tyA_232 tyA_233 tyA_257 tyA_262 tyA_268 tyA_270 tyA_272 tyA_281 tyA_285 tyA_287 tyA_290 tyA_291 tyA_292 tyA_293 tyA_294 tyA_295 tyA_296 tyA_298 tyA_299 Option.map_some Option.map_none Option.getD_some Option.getD_none Option.bind_some Option.bind_none List.getElem?_cons_zero List.getElem?_cons_succ List.getElem?_nil List.getElem?_toArray List.length_cons List.length_nil List.length_map List.forall_mem_map List.map_cons List.map_nil List.drop_zero List.drop_succ_cons List.drop_nil List.take_zero List.take_succ_cons List.take_nil List.mem_cons List.not_mem_nil or_false forall_eq_or_imp forall_eq List.set_cons_zero List.set_cons_succ List.cons_append List.nil_append List.append_nil List.foldl_cons List.foldl_nil List.replicate_succ List.replicate_zero List.all_cons List.all_nil if_true if_false Bool.false_eq_true ne_eq not_false_eq_true not_true_eq_false true_and and_true and_self true_implies imp_self implies_true forall_const beq_self_eq_true Bool.and_true Bool.true_and Bool.and_false Bool.false_and Bool.or_true Bool.true_or Bool.or_false Bool.false_or Bool.not_true Bool.not_false Bool.not_eq_eq_eq_not intKindOf Value.oneCell' Int.toNat_natCast beq_true beq_false Bool.not_eq_true false_implies false_or true_or or_true Nat.zero_add Nat.add_zero decide_true decide_false Int.cast_ofNat_Int Int.toNat_zero Int.toNat_one eq_self

theorem rone_told (a b : NT) : Told Tryz.prog 43 [a.av, b.av] (.c (.v (.bool (ceq a b)))) := by
 obtain ⟨V, hV⟩ : ∃ V, V = ceq a b := ⟨_, rfl⟩
 rw [← hV]
 have hT1 := rtexts_told a.aliases b.aliases
 have hT2 := rtexts_told a.symbols b.symbols
 obtain ⟨t1, ht1⟩ : ∃ t, t = (a.aliases == b.aliases) := ⟨_, rfl⟩
 obtain ⟨t2, ht2⟩ : ∃ t, t = (a.symbols == b.symbols) := ⟨_, rfl⟩
 rw [← ht1] at hT1
 rw [← ht2] at hT2
 rw [NT.av_eq, NT.av_eq, ncells_mk, ncells_mk]
 refine VC.toldP ent_43 Tryz.func43 rfl Tryz.ntmps43 fun hb => ?_
 simp only [List.map_cons, List.map_nil, abd_agg, abd_c, pbd_v, pbd_sl, List.mem_cons, List.not_mem_nil, or_false, forall_eq_or_imp, forall_eq, true_and, List.length_map] at hb
 have hfl : a.fields.length ≤ 9223372036854775807 := hb.1.2.1.1
 have hbl : a.branches.length ≤ 9223372036854775807 := hb.1.2.2.2.1
 clear hb
 refine walkGF (@str_toList) ?_
 refine walkD (hT1) ?_
 refine walkGF (@str_toList) ?_
 refine walkD (hT2) ?_
 refine walkGF (@str_toList) ?_
 refine VC.cond (by rfl) (by trivial) (fun hc => ?_) (fun hc => ?_)
 · have hf : V = false := by
    cases h : V with
    | false => rfl
    | true =>
      rw [hV, ceq_iff] at h
      subst h
      simp [ht1, ht2] at hc
   subst hf
   refine walkG ?_
   refine retX Tryz.results43 ?_
   exact .c _
 simp only [Bool.or_eq_false_iff, bne_eq_false_iff_eq, Bool.not_eq_false', beq_iff_eq] at hc
 obtain ⟨⟨⟨⟨⟨⟨⟨⟨⟨h1, h2⟩, h3⟩, h4⟩, h5⟩, h6⟩, h7⟩, h8⟩, h9⟩, h10⟩ := hc
 have hbb : a.branches.length = b.branches.length := by omega
 have hff : a.fields.length = b.fields.length := by omega
 have e3 : a.aliases = b.aliases := by simpa [ht1] using h3
 have e4 : a.symbols = b.symbols := by simpa [ht2] using h4
 have hv : V = (ceq a.fields b.fields && (a.branches == b.branches)) := by
  rw [hV, ceq_node, h1, h2, e3, e4, h5, h6, h7, h8]
  simp
 clear hV hT1 hT2 ht1 ht2
 refine walkG ?_
 refine VC.loop (ι := {i : Nat // i ≤ a.branches.length ∧ a.branches.take i = b.branches.take i}) (fun q => [(2, .ref 0 1 0 0), (3, .ref 8 1 0 0), (5, .c (.v (.int .i64 (q.1 : Int))))])
  (fun _ => [(0, ⟨false, 33, 10, [a.cells.map .c]⟩), (8, ⟨false, 33, 10, [b.cells.map .c]⟩)]) 800 (fun q => a.branches.length - q.1) ⟨0, Nat.zero_le _, rfl⟩ ?_ ?_
 · simp only [ncells_mk, Weak, eq_self, used_is, sc_any, sc_c, sc_pp, sc_ref, sc_row, sc_agg, sc_fn, ScL, some_imp, List.forall_mem_map, go_sem, Int.reduceBEq, Int.reduceLE, Int.reduceLT, Int.reduceNeg, Nat.reduceAdd, Nat.reduceEqDiff, Nat.reduceLT, Nat.reduceLeDiff, Nat.reduceMul, Nat.reduceSub, reduceCtorEq, ↓reduceIte]
   try simp
 rintro ⟨i, hi, ht⟩
 simp only []
 refine walkGF (@ncells_mk) ?_
 refine VC.cond (by rfl) (by trivial) (fun hc => ?_) (fun hc => ?_)
 · have hlt : i < a.branches.length := by simp at hc; omega
   obtain ⟨x, hx⟩ : ∃ x, a.branches[i]? = some x := ⟨a.branches[i], List.getElem?_eq_getElem hlt⟩
   obtain ⟨y, hy⟩ : ∃ y, b.branches[i]? = some y := ⟨b.branches[i]'(by omega), List.getElem?_eq_getElem (by omega)⟩
   have hw : IntKind.i64.wrap ((i : Int) + 1) = (i : Int) + 1 := wrap64_id (by omega) (by omega)
   have hxp : (a.branches.map iPV)[i]? = some (iPV x) := by rw [List.getElem?_map, hx]; rfl
   have hyp : (b.branches.map iPV)[i]? = some (iPV y) := by rw [List.getElem?_map, hy]; rfl
   refine walkGF (And.intro @ncells_mk (And.intro hxp (And.intro hyp @iPV_eq))) ?_
   refine VC.cond (by rfl) (by trivial) (fun hc2 => ?_) (fun hc2 => ?_)
   · have hf : V = false := by
      have : (a.branches == b.branches) = false := by
       rw [beq_eq_false_iff_ne]
       exact ne_at hx hy (by simpa using hc2)
      rw [hv, this]
      simp
     subst hf
     refine walkG ?_
     refine retX Tryz.results43 ?_
     exact .c _
   · have hxy : x = y := by simpa using hc2
     refine walkGF (hw) ?_
     refine .next ⟨i + 1, by omega, take_nexty hx hy ht hxy⟩ ?_ (by simp only []; omega)
     simp only [ncells_mk, Weak, eq_self, used_is, sc_any, sc_c, sc_pp, sc_ref, sc_row, sc_agg, sc_fn, ScL, some_imp, List.forall_mem_map, go_sem, Int.reduceBEq, Int.reduceLE, Int.reduceLT, Int.reduceNeg, Nat.reduceAdd, Nat.reduceEqDiff, Nat.reduceLT, Nat.reduceLeDiff, Nat.reduceMul, Nat.reduceSub, reduceCtorEq, ↓reduceIte]
     try exact cI (by omega)
 have hie : i = a.branches.length := by simp at hc; omega
 have hbe : a.branches = b.branches := take_end ht hie hbb
 have hv2 : V = ceq a.fields b.fields := by rw [hv, hbe]; simp
 clear hv hc
 refine walkG ?_
 refine VC.loop (ι := {i : Nat // i ≤ a.fields.length ∧ a.fields.take i = b.fields.take i}) (fun q => [(2, .ref 0 1 0 0), (3, .ref 8 1 0 0), (6, .c (.v (.int .i64 (q.1 : Int))))])
  (fun _ => [(0, ⟨false, 33, 10, [a.cells.map .c]⟩), (8, ⟨false, 33, 10, [b.cells.map .c]⟩)]) 1600 (fun q => a.fields.length - q.1) ⟨0, Nat.zero_le _, rfl⟩ ?_ ?_
 · simp only [ncells_mk, Weak, eq_self, used_is, sc_any, sc_c, sc_pp, sc_ref, sc_row, sc_agg, sc_fn, ScL, some_imp, List.forall_mem_map, go_sem, Int.reduceBEq, Int.reduceLE, Int.reduceLT, Int.reduceNeg, Nat.reduceAdd, Nat.reduceEqDiff, Nat.reduceLT, Nat.reduceLeDiff, Nat.reduceMul, Nat.reduceSub, reduceCtorEq, ↓reduceIte]
   try simp
 clear hie ht hi i
 rintro ⟨i, hi, ht⟩
 simp only []
 refine walkGF (@ncells_mk) ?_
 refine VC.cond (by rfl) (by trivial) (fun hc => ?_) (fun hc => ?_)
 · have hlt : i < a.fields.length := by simp at hc; omega
   obtain ⟨x, hx⟩ : ∃ x, a.fields[i]? = some x := ⟨a.fields[i], List.getElem?_eq_getElem hlt⟩
   obtain ⟨y, hy⟩ : ∃ y, b.fields[i]? = some y := ⟨b.fields[i]'(by omega), List.getElem?_eq_getElem (by omega)⟩
   have hw : IntKind.i64.wrap ((i : Int) + 1) = (i : Int) + 1 := wrap64_id (by omega) (by omega)
   have hxp : (a.fields.map FT.cells)[i]? = some x.cells := by rw [List.getElem?_map, hx]; rfl
   have hyp : (b.fields.map FT.cells)[i]? = some y.cells := by rw [List.getElem?_map, hy]; rfl
   have hT := rtexts_told x.aliases y.aliases
   have hS := rsame_told _ x.dflt y.dflt (Nat.le_refl _)
   simp only [JT.av] at hS
   obtain ⟨u1, hu1⟩ : ∃ t, t = (x.aliases == y.aliases) := ⟨_, rfl⟩
   obtain ⟨u2, hu2⟩ : ∃ t, t = jeq x.dflt y.dflt := ⟨_, rfl⟩
   rw [← hu1] at hT
   rw [← hu2] at hS
   refine walkGF (And.intro @ncells_mk (And.intro hxp (And.intro hyp (And.intro @fcells_mk (And.intro @len_cells (And.intro @take_cells (And.intro @take_cellsC @str_toList))))))) ?_
   refine walkD (hT) ?_
   refine walkGF (And.intro @ncells_mk (And.intro hxp (And.intro hyp (And.intro @fcells_mk (And.intro @len_cells (And.intro @take_cells (And.intro @take_cellsC @str_toList))))))) ?_
   refine walkDF (@pureL_c) (hS) ?_
   refine walkG ?_
   refine VC.cond (by rfl) (by trivial) (fun hc2 => ?_) (fun hc2 => ?_)
   · have hne : x ≠ y := by
      rintro rfl
      simp [hu1, hu2, jeq_self] at hc2
     have hf : V = false := by
      rw [hv2, ceq_false]
      exact ne_at hx hy hne
     subst hf
     refine walkG ?_
     refine retX Tryz.results43 ?_
     exact .c _
   · have hxy : x = y := by
      have e := ceq_field x y
      simp only [Bool.or_eq_false_iff, bne_eq_false_iff_eq, Bool.not_eq_false', beq_iff_eq] at hc2
      obtain ⟨⟨⟨⟨g1, g2⟩, g3⟩, g4⟩, g5⟩ := hc2
      have g2 : x.aliases = y.aliases := by simpa [hu1] using g2
      rw [← ceq_iff, e, g1, g2, g3, g4, ← hu2, g5]
      simp
     refine walkGF (hw) ?_
     refine .next ⟨i + 1, by omega, take_nexty hx hy ht hxy⟩ ?_ (by simp only []; omega)
     simp only [ncells_mk, Weak, eq_self, used_is, sc_any, sc_c, sc_pp, sc_ref, sc_row, sc_agg, sc_fn, ScL, some_imp, List.forall_mem_map, go_sem, Int.reduceBEq, Int.reduceLE, Int.reduceLT, Int.reduceNeg, Nat.reduceAdd, Nat.reduceEqDiff, Nat.reduceLT, Nat.reduceLeDiff, Nat.reduceMul, Nat.reduceSub, reduceCtorEq, ↓reduceIte]
     try exact cI (by omega)
 · have hie : i = a.fields.length := by simp at hc; omega
   have hfe : a.fields = b.fields := take_end ht hie hff
   have hf : V = true := by
    rw [hv2, hfe, ceq_self]
   subst hf
   refine walkG ?_
   refine retX Tryz.results43 ?_
   exact .c _

theorem rnamed10_told (k : Int) : Told Tryz.prog 91 [.c (.v (.int .i64 k))] (.c (.v (.bool (namedK k)))) := by
 obtain ⟨V, hV⟩ : ∃ V, V = namedK k := ⟨_, rfl⟩
 rw [← hV]
 unfold namedK at hV
 replace hV := Lib.hid hV
 refine VC.toldP ent_91 Tryz.func91 rfl Tryz.ntmps91 fun hb => ?_
 clear hb
 refine walkG ?_
 refine retX Tryz.results91 ?_
 rw [hV.out]
 exact .c _
theorem rkids_told (n : NT) (hn : n.sm 1000000) : Told Tryz.prog 96 [n.av] (.c (.sl 1 ((kidsN n).map iPV))) := by
 obtain ⟨L, hL⟩ : ∃ L, L = kidsN n := ⟨_, rfl⟩
 rw [← hL]
 unfold kidsN at hL
 have hfl := hn.2.2.2.2.2.1
 have hbl := hn.2.2.2.2.1
 rw [NT.av_eq, ncells_mk]
 refine VC.toldP ent_96 Tryz.func96 rfl Tryz.ntmps96 fun hb => ?_
 clear hb
 by_cases h9 : n.kind = 9
 · rw [if_pos h9] at hL
   subst hL
   rw [h9]
   refine walkB ?_
   refine VC.nil 3 3 1 (by rfl) (by trivial) (by rfl) ?_
   refine VC.loop (ι := {i : Nat // i ≤ n.fields.length}) (fun q => [(1, .ref 0 1 0 0), (3, .row 56 q.1), (4, .c (.v (.int .i64 (q.1 : Int))))])
    (fun q => [(0, ⟨false, 33, 10, [({n with kind := 9} : NT).cells.map .c]⟩), (56, ⟨true, 3, 1, rA iPV ((n.fields.map (·.type)).take q.1)⟩)]) 800 (fun q => n.fields.length - q.1) ⟨0, Nat.zero_le _⟩ ?_ ?_
   · simp only [rA_len, rA_sc, rA_nil, ncells_mk, Weak, eq_self, used_is, sc_any, sc_c, sc_pp, sc_ref, sc_row, sc_agg, sc_fn, ScL, some_imp, List.forall_mem_map, go_sem, Int.reduceBEq, Int.reduceLE, Int.reduceLT, Int.reduceNeg, Nat.reduceAdd, Nat.reduceEqDiff, Nat.reduceLT, Nat.reduceLeDiff, Nat.reduceMul, Nat.reduceSub, reduceCtorEq, ↓reduceIte]
     try simp
   rintro ⟨i, hi⟩
   simp only []
   refine walkGF (@ncells_mk) ?_
   refine VC.cond (by rfl) (by trivial) (fun hc => ?_) (fun hc => ?_)
   · have hlt : i < n.fields.length := by simp at hc; omega
     obtain ⟨f, hx⟩ : ∃ f, n.fields[i]? = some f := ⟨n.fields[i], List.getElem?_eq_getElem hlt⟩
     have hw : IntKind.i64.wrap ((i : Int) + 1) = (i : Int) + 1 := wrap64_id (by omega) (by omega)
     have hxp : (n.fields.map FT.cells)[i]? = some f.cells := by rw [List.getElem?_map, hx]; rfl
     have hl : (rA iPV ((n.fields.map (·.type)).take i)).length = i := by rw [rA_len]; simp; omega
     have hr : rA iPV ((n.fields.map (·.type)).take i) ++ [[.c (.v (.int .i64 f.type))]] = rA iPV ((n.fields.map (·.type)).take (i + 1)) := by
      rw [List.take_add_one, List.getElem?_map, hx]
      exact rA_one iPV _ f.type
     have hl2 : (rA iPV ((n.fields.map (·.type)).take (i + 1))).length = i + 1 := by rw [rA_len]; simp; omega
     refine walkGF (And.intro @ncells_mk (And.intro hxp (And.intro @fcells_mk (And.intro @len_cells (And.intro @take_cells (And.intro @take_cellsC (And.intro hl (And.intro hr hw)))))))) ?_
     refine .next ⟨i + 1, by omega⟩ ?_ (by simp only []; omega)
     refine weakXF (And.intro hl2 (And.intro @rA_sc @ncells_mk)) ?_
     exact ⟨cI (by omega), Nat.le_refl _⟩
   · have hie : i = n.fields.length := by simp at hc; omega
     have htk : (n.fields.map (·.type)).take i = n.fields.map (·.type) := List.take_of_length_le (by simp; omega)
     rw [htk]
     refine walkBF (And.intro hie @ncells_mk) ?_
     refine retX Tryz.results96 ?_
     apply frz_rA (f := iPV) (l := n.fields.map (·.type)) (T := 3)
     · rfl
     · simp [hie]
     · rfl
     · simp [iPV]
 by_cases h11 : n.kind = 11
 · rw [if_neg h9, if_pos (.inl h11)] at hL
   subst hL
   rw [h11]
   refine walkB ?_
   refine retX Tryz.results96 ?_
   exact frz_rA (f := iPV) (l := [n.items]) rfl rfl rfl (by simp [iPV])
 by_cases h12 : n.kind = 12
 · rw [if_neg h9, if_pos (.inr h12)] at hL
   subst hL
   rw [h12]
   refine walkB ?_
   refine retX Tryz.results96 ?_
   exact frz_rA (f := iPV) (l := [n.items]) rfl rfl rfl (by simp [iPV])
 by_cases h13 : n.kind = 13
 · rw [if_neg h9, if_neg (by simp [h11, h12]), if_pos h13] at hL
   subst hL
   rw [h13]
   refine walkB ?_
   refine retX Tryz.results96 ?_
   refine frz_rA (f := iPV) (l := n.branches) (T := 3) ?_ ?_ rfl (by simp [iPV])
   · simp [upd_at, rA_pv]
   · simp
 · rw [if_neg h9, if_neg (by simp [h11, h12]), if_neg h13] at hL
   subst hL
   have e9 : (n.kind == 9) = false := by simpa using h9
   have e11 : (n.kind == 11) = false := by simpa using h11
   have e12 : (n.kind == 12) = false := by simpa using h12
   have e13 : (n.kind == 13) = false := by simpa using h13
   refine walkBF (And.intro e9 (And.intro e11 (And.intro e12 e13))) ?_
   refine retX Tryz.results96 ?_
   exact .nil _
theorem met_told (s : ST) (hl : s.nodes.length ≤ 1000000) (hs : ∀ n ∈ s.nodes, n.sm 1000000) : ∀ (d : Nat) (z : Int), z = 33 - (d : Int) → d ≤ 33 → ∀ p : Nat, p ≤ s.nodes.length →
  Told Tryz.prog 144 [s.av, .c (.v (.int .i64 (p : Int))), .c (.v (.int .i64 z))] (.c (.v (.int .i64 (metM s.nodes d p)))) := by
 intro d
 induction d with
 | zero =>
   intro z hz hd p hp
   have hz2 : decide (z > 32) = true := by simp; omega
   have hm : metM s.nodes 0 p = -1 := by simp [metM, walkM]
   rw [hm, ST.av_eq, scells_mk]
   refine VC.toldP ent_144 Tryz.func144 rfl Tryz.ntmps144 fun hb => ?_
   clear hb
   refine walkGF (hz2) ?_
   refine VC.cond (by rfl) (by trivial) (fun hc => ?_) (fun hc => ?_)
   · refine walkG ?_
     refine retX Tryz.results144 ?_
     exact .c _
   · exact absurd hc (by simp)
 | succ d ih =>
   intro z hz hd p hp
   have hz2 : decide (z > 32) = false := by simp; omega
   have hwz : IntKind.i64.wrap (z + 1) = z + 1 := wrap64_id (by omega) (by omega)
   have hI := ih (z + 1) (by omega) (by omega)
   clear ih
   obtain ⟨V, hV⟩ : ∃ V, V = metM s.nodes (d + 1) p := ⟨_, rfl⟩
   rw [← hV]
   unfold metM at hV
   obtain ⟨R, hR⟩ : ∃ R, R = walkM s.nodes (d + 1) p := ⟨_, rfl⟩
   rw [← hR] at hV
   rw [walkM] at hR
   have hle := walkM_le s.nodes d
   rw [ST.av_eq, scells_mk]
   simp only [ST.av_eq, scells_mk, List.map_cons, List.map_nil] at hI
   by_cases hlt : p < s.nodes.length
   · obtain ⟨n, hn⟩ : ∃ n, s.nodes[p]? = some n := ⟨s.nodes[p], List.getElem?_eq_getElem hlt⟩
     have hnp : (s.nodes.map NT.cells)[p]? = some n.cells := by rw [List.getElem?_map, hn]; rfl
     have hge : decide ((p : Int) ≥ (s.nodes.length : Int)) = false := by simp; omega
     have hwp : IntKind.i64.wrap ((p : Int) + 1) = ((p + 1 : Nat) : Int) := by rw [wrap64_id (by omega) (by omega)]; rfl
     have hns := hs n (List.mem_of_getElem? hn)
     have hKi := rkids_told n hns
     have hkl := kids_len hns
     rw [hn] at hR
     simp only [] at hR
     obtain ⟨ks, hks⟩ : ∃ ks, ks = kidsN n := ⟨_, rfl⟩
     rw [← hks] at hKi hR hkl
     simp only [NT.av_eq] at hKi
     clear hks
     refine VC.toldP ent_144 Tryz.func144 rfl Tryz.ntmps144 fun hb => ?_
     clear hb
     refine walkGF (And.intro hge hz2) ?_
     refine VC.cond (by rfl) (by trivial) (fun hc => ?_) (fun hc => ?_)
     · exact absurd hc (by simp)
     refine walkGF (And.intro hwp (And.intro hnp (And.intro @len_ncells (And.intro @take_ncells @take_ncellsC)))) ?_
     refine walkCF (@pureL_c) (hKi) ?_
     refine walkG ?_
     clear hKi
     refine VC.loop (ι := {x : Nat × Nat // x.1 ≤ ks.length ∧ x.2 ≤ s.nodes.length ∧ walkK s.nodes (walkM s.nodes d) (ks.drop x.1) x.2 = R})
      (fun q => [(2, .c (.v (.int .i64 z))), (3, .ref 0 1 0 0), (7, .c (.v (.int .i64 (q.1.2 : Int)))), (8, .c (.sl 1 (ks.map iPV))), (9, .c (.v (.int .i64 (q.1.1 : Int))))])
      (fun q => [(0, ⟨false, 24, 2, [[.c (.sl 10 (s.nodes.map NT.cells)), .c (.v (.int .i64 s.root))]]⟩)]) 800 (fun q => ks.length - q.1.1) ⟨(0, p + 1), Nat.zero_le _, hlt, by rw [List.drop_zero]; exact hR.symm⟩ ?_ ?_
     · simp only [Weak, eq_self, used_is, sc_any, sc_c, sc_pp, sc_ref, sc_row, sc_agg, sc_fn, ScL, some_imp, List.forall_mem_map, go_sem, Int.reduceBEq, Int.reduceLE, Int.reduceLT, Int.reduceNeg, Nat.reduceAdd, Nat.reduceEqDiff, Nat.reduceLT, Nat.reduceLeDiff, Nat.reduceMul, Nat.reduceSub, reduceCtorEq, ↓reduceIte]
       try simp
     clear hR
     rintro ⟨⟨i, q⟩, hi, hq, hR⟩
     simp only [] at hi hq hR ⊢
     refine walkG ?_
     refine VC.cond (by rfl) (by trivial) (fun hc2 => ?_) (fun hc2 => ?_)
     · have hil : i < ks.length := by simp at hc2; omega
       obtain ⟨x, hx⟩ : ∃ x, ks[i]? = some x := ⟨ks[i], List.getElem?_eq_getElem hil⟩
       have hxp : (ks.map iPV)[i]? = some (iPV x) := by rw [List.getElem?_map, hx]; rfl
       have hw : IntKind.i64.wrap ((i : Int) + 1) = (i : Int) + 1 := wrap64_id (by omega) (by omega)
       rw [drop_at' hx, walkK] at hR
       by_cases hx0 : x < 0
       · have hf : R = (false, q) := by
          rw [if_neg (by omega), if_pos (.inl hx0)] at hR
          exact hR.symm
         subst hf
         obtain rfl : V = -1 := hV
         have e0 : decide (x < 0) = true := by simpa using hx0
         refine walkBF (And.intro hxp (And.intro @iPV_eq e0)) ?_
         refine retX Tryz.results144 ?_
         exact .c _
       have e0 : decide (x < 0) = false := by simpa using hx0
       by_cases hxq : x > (q : Int)
       · have hf : R = (false, q) := by
          rw [if_neg (by omega), if_pos (.inr (.inl hxq))] at hR
          exact hR.symm
         subst hf
         obtain rfl : V = -1 := hV
         have e1 : decide (x > (q : Int)) = true := by simpa using hxq
         refine walkBF (And.intro hxp (And.intro @iPV_eq (And.intro e0 e1))) ?_
         refine retX Tryz.results144 ?_
         exact .c _
       have e1 : decide (x > (q : Int)) = false := by simpa using hxq
       by_cases hk : x = (q : Int)
       · rw [if_pos hk] at hR
         subst hk
         have e2 : decide ((q : Int) < (q : Int)) = false := by simp
         have hkq : ((q : Int) == (q : Int)) = true := by simp
         have hIq := hI q hq
         have hqb := (hle q hq).2
         obtain ⟨D, hD⟩ : ∃ D, D = metM s.nodes d q := ⟨_, rfl⟩
         rw [← hD] at hIq
         unfold metM at hD
         obtain ⟨M, hM⟩ : ∃ M, M = walkM s.nodes d q := ⟨_, rfl⟩
         rw [← hM] at hD hR hqb
         clear hI hM
         refine walkBF (And.intro hxp (And.intro @iPV_eq (And.intro hkq (And.intro hwz (And.intro e0 (And.intro e1 e2)))))) ?_
         refine walkC (hIq) ?_
         cases hm1 : M.1 with
         | false =>
           rw [hm1, if_neg (by simp)] at hD hR
           subst hR
           obtain rfl : V = -1 := hV
           subst hD
           refine walkB ?_
           refine retX Tryz.results144 ?_
           exact .c _
         | true =>
           rw [hm1, if_pos rfl] at hD hR
           subst hD
           have e3 : decide (((M.2 : Nat) : Int) < 0) = false := by simp
           refine walkBF (And.intro e3 hw) ?_
           refine .next ⟨(i + 1, M.2), by simp only []; omega, hqb, hR⟩ ?_ (by simp only []; omega)
           simp only [Weak, eq_self, used_is, sc_any, sc_c, sc_pp, sc_ref, sc_row, sc_agg, sc_fn, ScL, some_imp, List.forall_mem_map, go_sem, Int.reduceBEq, Int.reduceLE, Int.reduceLT, Int.reduceNeg, Nat.reduceAdd, Nat.reduceEqDiff, Nat.reduceLT, Nat.reduceLeDiff, Nat.reduceMul, Nat.reduceSub, reduceCtorEq, ↓reduceIte]
           try exact cI (by omega)
       · rw [if_neg hk] at hR
         have e2 : decide (x < (q : Int)) = true := by simp; omega
         have hkq : (x == (q : Int)) = false := by simpa using hk
         obtain ⟨j, rfl⟩ : ∃ j : Nat, x = (j : Int) := ⟨x.toNat, by omega⟩
         have hj : j < s.nodes.length := by omega
         obtain ⟨m, hm⟩ : ∃ m, s.nodes[j]? = some m := ⟨s.nodes[j], List.getElem?_eq_getElem hj⟩
         have hmp : (s.nodes.map NT.cells)[j]? = some m.cells := by rw [List.getElem?_map, hm]; rfl
         have hka : kindAt s.nodes ((j : Int)).toNat = m.kind := by rw [Int.toNat_natCast, kindAt, hm]
         rw [hka] at hR
         have hN := rnamed10_told m.kind
         refine walkBF (And.intro hxp (And.intro @iPV_eq (And.intro hkq (And.intro e0 (And.intro e1 (And.intro e2 (And.intro hmp @ncells_mk))))))) ?_
         refine walkC (hN) ?_
         refine walkGF (hkq) ?_
         refine VC.cond (by rfl) (by trivial) (fun hc3 => ?_) (fun hc3 => ?_)
         · have hf : R = (false, q) := by
            rw [if_pos (.inr (.inr (by simpa using hc3)))] at hR
            exact hR.symm
           subst hf
           obtain rfl : V = -1 := hV
           refine walkG ?_
           refine retX Tryz.results144 ?_
           exact .c _
         · have hnn : namedK m.kind = true := by simpa using hc3
           have hno : ¬ ((j : Int) < 0 ∨ (j : Int) > (q : Int) ∨ namedK m.kind = false) := by
            rintro (h | h | h)
            · exact hx0 h
            · exact hxq h
            · rw [hnn] at h
              exact absurd h (by simp)
           rw [if_neg hno] at hR
           refine walkBF (And.intro hw hkq) ?_
           refine .next ⟨(i + 1, q), by simp only []; omega, hq, hR⟩ ?_ (by simp only []; omega)
           simp only [Weak, eq_self, used_is, sc_any, sc_c, sc_pp, sc_ref, sc_row, sc_agg, sc_fn, ScL, some_imp, List.forall_mem_map, go_sem, Int.reduceBEq, Int.reduceLE, Int.reduceLT, Int.reduceNeg, Nat.reduceAdd, Nat.reduceEqDiff, Nat.reduceLT, Nat.reduceLeDiff, Nat.reduceMul, Nat.reduceSub, reduceCtorEq, ↓reduceIte]
           try exact cI (by omega)
     · have hie : i = ks.length := by simp at hc2; omega
       have hf : R = (true, q) := by
        rw [hie, List.drop_length, walkK] at hR
        exact hR.symm
       subst hf
       obtain rfl : V = (q : Int) := hV
       refine walkG ?_
       refine retX Tryz.results144 ?_
       exact .c _
   · have hR : R = (false, p) := by
      rw [hR, List.getElem?_eq_none (by omega)]
     subst hR
     obtain rfl : V = -1 := hV
     have hge : decide ((p : Int) ≥ (s.nodes.length : Int)) = true := by simp; omega
     refine VC.toldP ent_144 Tryz.func144 rfl Tryz.ntmps144 fun hb => ?_
     clear hb
     refine walkGF (hge) ?_
     refine VC.cond (by rfl) (by trivial) (fun hc => ?_) (fun hc => ?_)
     · refine walkG ?_
       refine retX Tryz.results144 ?_
       exact .c _
     · exact absurd hc (by simp)
theorem rordered_told (s : ST) (hl : s.nodes.length ≤ 1000000) (hs : ∀ n ∈ s.nodes, n.sm 1000000) : Told Tryz.prog 88 [s.av] (.c (.v (.bool (orderedM s)))) := by
 have hW := met_told s hl hs 33 0 (by omega) (by omega) 0 (Nat.zero_le _)
 obtain ⟨D, hD⟩ : ∃ D, D = metM s.nodes 33 0 := ⟨_, rfl⟩
 rw [← hD] at hW
 unfold metM at hD
 have hle := walkM_le s.nodes 33 0 (Nat.zero_le _)
 have hv : orderedM s = (decide ((s.nodes.length : Int) ≥ 1) && decide ((s.nodes.length : Int) ≤ 200) && (s.root == 0) && (D == (s.nodes.length : Int))) := by
  have e1 : decide ((s.nodes.length : Int) ≥ 1) = decide (0 < s.nodes.length) := by simp; omega
  have e2 : decide ((s.nodes.length : Int) ≤ 200) = decide (s.nodes.length ≤ 200) := by simp; omega
  have e3 : (s.root == 0) = decide (s.root = 0) := by by_cases h : s.root = 0 <;> simp [h]
  have e4 : (D == (s.nodes.length : Int)) = ((walkM s.nodes 33 0).1 && decide ((walkM s.nodes 33 0).2 = s.nodes.length)) := by
   rw [hD]
   cases h1 : (walkM s.nodes 33 0).1 with
   | false =>
     simp
   | true =>
     by_cases h : (walkM s.nodes 33 0).2 = s.nodes.length
     · simp [h]
     · have : ¬ (((walkM s.nodes 33 0).2 : Int) = (s.nodes.length : Int)) := by omega
       simp [h, this]
  rw [orderedM, e1, e2, e3, e4]
  simp only [Bool.and_assoc]
 obtain ⟨V, hV⟩ : ∃ V, V = orderedM s := ⟨_, rfl⟩
 rw [← hV] at hv ⊢
 clear hV hD hle
 replace hv := Lib.hid hv
 simp only [ST.av_eq, scells_mk, List.map_cons, List.map_nil] at hW
 rw [ST.av_eq, scells_mk]
 rw [show ((0 : Nat) : Int) = 0 from rfl] at hW
 refine VC.toldP ent_88 Tryz.func88 rfl Tryz.ntmps88 fun hb => ?_
 clear hb
 refine walkG ?_
 refine walkD (hW) ?_
 refine walkG ?_
 refine retX Tryz.results88 ?_
 rw [hv.out]
 exact .c _

theorem rtextr_told (s : List UInt8) (hs : s.length ≤ 1000000) : Told Tryz.prog 197 [.c (.v (.string (str s)))] (.c (.v (.bool (isRight s)))) := by
 obtain ⟨Z, hC, hd⟩ := rcount3_told s hs
 have hsz : (str s).size = s.length := str_size s
 have hdl : (str s).data.toList = s := by simp [str]
 refine VC.toldP ent_197 Tryz.func197 rfl Tryz.ntmps197 fun hb => ?_
 clear hb
 refine walkGF (And.intro hsz hdl) ?_
 refine walkCF (And.intro hsz hdl) (hC) ?_
 refine walkGF (hd) ?_
 refine retX Tryz.results197 ?_
 exact .c _

theorem takeN {α : Type} {l : List α} {i : Nat} {x : α} (h : l[i]? = some x) : l.take (i + 1) = l.take i ++ [x] := by
 rw [List.take_add_one, h]
 rfl
theorem rshapes_all : ∀ xs : List JT, rshapes xs = xs.all rshape
 | [] => by rw [rshapes]; rfl
 | x :: xs => by rw [rshapes, rshapes_all xs]; rfl
theorem rshape_told : ∀ (m : Nat) (t : JT), SizeOf.sizeOf t ≤ m → t.sm 1000000 → Told Tryz.prog 157 [t.av] (.c (.v (.bool (rshape t)))) := by
 intro m
 induction m with
 | zero =>
   intro t ht
   cases t
   simp at ht
 | succ m ih =>
 intro t ht hsm
 cases t with
 | mk k n s ks xs =>
 have hx : ∀ x ∈ xs, Told Tryz.prog 157 [x.av] (.c (.v (.bool (rshape x)))) := fun x hxm => ih x (by have := List.sizeOf_lt_of_mem hxm; simp at ht; omega) (smL_mem hsm.2.2.2.2 x hxm)
 obtain ⟨hsl, hkl, hks, hxl, _⟩ := hsm
 clear ih ht
 obtain ⟨V, hV⟩ : ∃ V, V = rshape (.mk k n s ks xs) := ⟨_, rfl⟩
 rw [← hV]
 rw [rshape] at hV
 have hT := rtextr_told s hsl
 simp only [JT.av]
 refine VC.told ent_157 Tryz.func157 rfl Tryz.ntmps157 (by simp) (by simp [AV.pureB, AV.pureL, cells_mk]) (by simp [AV.pureB, AV.pureL]) fun hb => ?_
 clear hb
 (iterate 18 (first | refine pass ?_ | refine VC.region (by rfl) (by rfl) ?_ | (refine AO.step fun K hK => ?_; simp only [cells_mk, List.length_map, go_sem, Int.reduceBEq, Int.reduceLE, Int.reduceLT, Int.reduceNeg, Nat.reduceAdd, Nat.reduceEqDiff, Nat.reduceLT, Nat.reduceLeDiff, Nat.reduceMul, Nat.reduceSub, reduceCtorEq, ↓reduceIte]; (first | refine gsel_skip ?_ | refine gsel_go ?_ | skip); (first | refine hK _ _ _ ?_ | refine ⟨by first | omega | exact ⟨_, rfl, rfl⟩ | exact fun _ => ⟨_, rfl, rfl⟩ | (intro h; simp only [cells_mk, List.length_map, h, true_and]; omega) | (clear hK; intro h; simp_all <;> omega), hK _ _ _ ?_⟩); clear hK K) | refine VC.draw mixP (by rfl) (by rfl) ?_ | refine ⟨okd_of (by kernel_rfl), ?_⟩ | refine BQ.other (by decide) ?_ | refine VC.seq ?_ | refine AO.nil ?_ | refine VC.block ?_))
 obtain ⟨b1, hb1⟩ : ∃ b : Bool, b = (decide (k < 1) || decide (k > 6)) := ⟨_, rfl⟩
 rw [← hb1]; replace hb1 := Lib.hid hb1
 (iterate 15 (first | refine pass ?_ | refine VC.region (by rfl) (by rfl) ?_ | (refine AO.step fun K hK => ?_; simp only [cells_mk, List.length_map, go_sem, Int.reduceBEq, Int.reduceLE, Int.reduceLT, Int.reduceNeg, Nat.reduceAdd, Nat.reduceEqDiff, Nat.reduceLT, Nat.reduceLeDiff, Nat.reduceMul, Nat.reduceSub, reduceCtorEq, ↓reduceIte]; (first | refine gsel_skip ?_ | refine gsel_go ?_ | skip); (first | refine hK _ _ _ ?_ | refine ⟨by first | omega | exact ⟨_, rfl, rfl⟩ | exact fun _ => ⟨_, rfl, rfl⟩ | (intro h; simp only [cells_mk, List.length_map, h, true_and]; omega) | (clear hK; intro h; simp_all <;> omega), hK _ _ _ ?_⟩); clear hK K) | refine VC.draw mixP (by rfl) (by rfl) ?_ | refine ⟨okd_of (by kernel_rfl), ?_⟩ | refine BQ.other (by decide) ?_ | refine VC.seq ?_ | refine AO.nil ?_ | refine VC.block ?_))
 obtain ⟨b2, hb2⟩ : ∃ b : Bool, b = (b1 || k != 2 && k != 3 && n != 0) := ⟨_, rfl⟩
 rw [← hb2]; replace hb2 := Lib.hid hb2
 (iterate 15 (first | refine pass ?_ | refine VC.region (by rfl) (by rfl) ?_ | (refine AO.step fun K hK => ?_; simp only [cells_mk, List.length_map, go_sem, Int.reduceBEq, Int.reduceLE, Int.reduceLT, Int.reduceNeg, Nat.reduceAdd, Nat.reduceEqDiff, Nat.reduceLT, Nat.reduceLeDiff, Nat.reduceMul, Nat.reduceSub, reduceCtorEq, ↓reduceIte]; (first | refine gsel_skip ?_ | refine gsel_go ?_ | skip); (first | refine hK _ _ _ ?_ | refine ⟨by first | omega | exact ⟨_, rfl, rfl⟩ | exact fun _ => ⟨_, rfl, rfl⟩ | (intro h; simp only [cells_mk, List.length_map, h, true_and]; omega) | (clear hK; intro h; simp_all <;> omega), hK _ _ _ ?_⟩); clear hK K) | refine VC.draw mixP (by rfl) (by rfl) ?_ | refine ⟨okd_of (by kernel_rfl), ?_⟩ | refine BQ.other (by decide) ?_ | refine VC.seq ?_ | refine AO.nil ?_ | refine VC.block ?_))
 obtain ⟨b3, hb3⟩ : ∃ b : Bool, b = (b2 || k == 2 && n != 0 && n != 1) := ⟨_, rfl⟩
 rw [← hb3]; replace hb3 := Lib.hid hb3
 have hE : (⟨#[]⟩ : ByteArray).toList = [] := str_toList []
 (iterate 10 (first | refine pass ?_ | refine VC.region (by rfl) (by rfl) ?_ | (refine AO.step fun K hK => ?_; simp only [cells_mk, List.length_map, str_toList, hE, go_sem, Int.reduceBEq, Int.reduceLE, Int.reduceLT, Int.reduceNeg, Nat.reduceAdd, Nat.reduceEqDiff, Nat.reduceLT, Nat.reduceLeDiff, Nat.reduceMul, Nat.reduceSub, reduceCtorEq, ↓reduceIte]; (first | refine gsel_skip ?_ | refine gsel_go ?_ | skip); (first | refine hK _ _ _ ?_ | refine ⟨by first | omega | exact ⟨_, rfl, rfl⟩ | exact fun _ => ⟨_, rfl, rfl⟩ | (intro h; simp only [cells_mk, List.length_map, str_toList, hE, h, true_and]; omega) | (clear hK; intro h; simp_all <;> omega), hK _ _ _ ?_⟩); clear hK K) | refine VC.draw mixP (by rfl) (by rfl) ?_ | refine ⟨okd_of (by kernel_rfl), ?_⟩ | refine BQ.other (by decide) ?_ | refine VC.seq ?_ | refine AO.nil ?_ | refine VC.block ?_))
 obtain ⟨b4, hb4⟩ : ∃ b : Bool, b = (b3 || k != 4 && !s == []) := ⟨_, rfl⟩
 rw [← hb4]; replace hb4 := Lib.hid hb4
 refine walkGF (@cells_mk) ?_
 refine walkDF (@cells_mk) (hT) ?_
 (iterate 3 (first | refine pass ?_ | refine VC.region (by rfl) (by rfl) ?_ | (refine AO.step fun K hK => ?_; simp only [cells_mk, List.length_map, go_sem, Int.reduceBEq, Int.reduceLE, Int.reduceLT, Int.reduceNeg, Nat.reduceAdd, Nat.reduceEqDiff, Nat.reduceLT, Nat.reduceLeDiff, Nat.reduceMul, Nat.reduceSub, reduceCtorEq, ↓reduceIte]; (first | refine gsel_skip ?_ | refine gsel_go ?_ | skip); (first | refine hK _ _ _ ?_ | refine ⟨by first | omega | exact ⟨_, rfl, rfl⟩ | exact fun _ => ⟨_, rfl, rfl⟩ | (intro h; simp only [cells_mk, List.length_map, h, true_and]; omega) | (clear hK; intro h; simp_all <;> omega), hK _ _ _ ?_⟩); clear hK K) | refine VC.draw mixP (by rfl) (by rfl) ?_ | refine ⟨okd_of (by kernel_rfl), ?_⟩ | refine BQ.other (by decide) ?_ | refine VC.seq ?_ | refine AO.nil ?_ | refine VC.block ?_))
 obtain ⟨b5, hb5⟩ : ∃ b : Bool, b = (b4 || !isRight s) := ⟨_, rfl⟩
 rw [← hb5]; replace hb5 := Lib.hid hb5
 (iterate 11 (first | refine pass ?_ | refine VC.region (by rfl) (by rfl) ?_ | (refine AO.step fun K hK => ?_; simp only [cells_mk, List.length_map, go_sem, Int.reduceBEq, Int.reduceLE, Int.reduceLT, Int.reduceNeg, Nat.reduceAdd, Nat.reduceEqDiff, Nat.reduceLT, Nat.reduceLeDiff, Nat.reduceMul, Nat.reduceSub, reduceCtorEq, ↓reduceIte]; (first | refine gsel_skip ?_ | refine gsel_go ?_ | skip); (first | refine hK _ _ _ ?_ | refine ⟨by first | omega | exact ⟨_, rfl, rfl⟩ | exact fun _ => ⟨_, rfl, rfl⟩ | (intro h; simp only [cells_mk, List.length_map, h, true_and]; omega) | (clear hK; intro h; simp_all <;> omega), hK _ _ _ ?_⟩); clear hK K) | refine VC.draw mixP (by rfl) (by rfl) ?_ | refine ⟨okd_of (by kernel_rfl), ?_⟩ | refine BQ.other (by decide) ?_ | refine VC.seq ?_ | refine AO.nil ?_ | refine VC.block ?_))
 obtain ⟨b6, hb6⟩ : ∃ b : Bool, b = (b5 || decide (k < 5) && decide ((xs.length : Int) > 0)) := ⟨_, rfl⟩
 rw [← hb6]; replace hb6 := Lib.hid hb6
 (iterate 11 (first | refine pass ?_ | refine VC.region (by rfl) (by rfl) ?_ | (refine AO.step fun K hK => ?_; simp only [cells_mk, List.length_map, go_sem, Int.reduceBEq, Int.reduceLE, Int.reduceLT, Int.reduceNeg, Nat.reduceAdd, Nat.reduceEqDiff, Nat.reduceLT, Nat.reduceLeDiff, Nat.reduceMul, Nat.reduceSub, reduceCtorEq, ↓reduceIte]; (first | refine gsel_skip ?_ | refine gsel_go ?_ | skip); (first | refine hK _ _ _ ?_ | refine ⟨by first | omega | exact ⟨_, rfl, rfl⟩ | exact fun _ => ⟨_, rfl, rfl⟩ | (intro h; simp only [cells_mk, List.length_map, h, true_and]; omega) | (clear hK; intro h; simp_all <;> omega), hK _ _ _ ?_⟩); clear hK K) | refine VC.draw mixP (by rfl) (by rfl) ?_ | refine ⟨okd_of (by kernel_rfl), ?_⟩ | refine BQ.other (by decide) ?_ | refine VC.seq ?_ | refine AO.nil ?_ | refine VC.block ?_))
 obtain ⟨b7, hb7⟩ : ∃ b : Bool, b = (b6 || k != 6 && decide ((ks.length : Int) > 0)) := ⟨_, rfl⟩
 rw [← hb7]; replace hb7 := Lib.hid hb7
 (iterate 13 (first | refine pass ?_ | refine VC.region (by rfl) (by rfl) ?_ | (refine AO.step fun K hK => ?_; simp only [cells_mk, List.length_map, go_sem, Int.reduceBEq, Int.reduceLE, Int.reduceLT, Int.reduceNeg, Nat.reduceAdd, Nat.reduceEqDiff, Nat.reduceLT, Nat.reduceLeDiff, Nat.reduceMul, Nat.reduceSub, reduceCtorEq, ↓reduceIte]; (first | refine gsel_skip ?_ | refine gsel_go ?_ | skip); (first | refine hK _ _ _ ?_ | refine ⟨by first | omega | exact ⟨_, rfl, rfl⟩ | exact fun _ => ⟨_, rfl, rfl⟩ | (intro h; simp only [cells_mk, List.length_map, h, true_and]; omega) | (clear hK; intro h; simp_all <;> omega), hK _ _ _ ?_⟩); clear hK K) | refine VC.draw mixP (by rfl) (by rfl) ?_ | refine ⟨okd_of (by kernel_rfl), ?_⟩ | refine BQ.other (by decide) ?_ | refine VC.seq ?_ | refine AO.nil ?_ | refine VC.block ?_))
 obtain ⟨b8, hb8⟩ : ∃ b : Bool, b = (b7 || k == 6 && (ks.length : Int) != (xs.length : Int)) := ⟨_, rfl⟩
 rw [← hb8]; replace hb8 := Lib.hid hb8
 have hF : rfail (.mk k n s ks xs) = b8 := by
  rw [hb8.out, hb7.out, hb6.out, hb5.out, hb4.out, hb3.out, hb2.out, hb1.out, rfail]
  have e1 : ∀ a b : Int, decide (a ≠ b) = (a != b) := fun a b => by by_cases h : a = b <;> simp [h]
  have e2 : ∀ a b : Int, decide (a = b) = (a == b) := fun a b => by by_cases h : a = b <;> simp [h]
  have e3 : s.isEmpty = (s == []) := by cases s <;> rfl
  have e4 : (!xs.isEmpty) = decide ((xs.length : Int) > 0) := by cases xs <;> simp <;> omega
  have e5 : (!ks.isEmpty) = decide ((ks.length : Int) > 0) := by cases ks <;> simp <;> omega
  have e6 : decide (ks.length ≠ xs.length) = ((ks.length : Int) != (xs.length : Int)) := by
   by_cases h : ks.length = xs.length
   · simp [h]
   · have : ¬ (ks.length : Int) = (xs.length : Int) := by omega
     simp [h, this]
  simp only [e1, e2, e3, e4, e5, e6]
 refine walkGF (@cells_mk) ?_
 refine VC.cond (by rfl) (by trivial) (fun hc => ?_) (fun hc => ?_)
 · have hf : V = false := by rw [hV, hF, hc]; simp
   subst hf
   refine walkBF (@cells_mk) ?_
   refine retX Tryz.results157 ?_
   exact .c _
 have hv : V = ((ks.all isRight && decide ks.Nodup) && rshapes xs) := by rw [hV, hF, hc]; simp
 clear hV hF hb1 hb2 hb3 hb4 hb5 hb6 hb7 hb8 hT
 refine walkGF (@cells_mk) ?_
 refine VC.loop (ι := {i : Nat // i ≤ ks.length ∧ (∀ y ∈ ks.take i, isRight y = true) ∧ (ks.take i).Nodup})
  (fun q => [(1, .ref 0 1 0 0), (3, .c (.v (.int .i64 (q.1 : Int))))]) (fun q => [(0, ⟨false, 36, 5, [(JT.mk k n s ks xs).cells.map .c]⟩)]) 2000 (fun q => ks.length - q.1) ⟨0, Nat.zero_le _, by simp, by simp⟩ ?_ ?_
 · exact weakZF (@cells_mk)
 · rintro ⟨i, hi, hr, hd⟩
   simp only []
   refine walkGF (@cells_mk) ?_
   refine VC.cond (by rfl) (by trivial) (fun hc2 => ?_) (fun hc2 => ?_)
   · have hlt : i < ks.length := by simp at hc2; omega
     obtain ⟨y, hy⟩ : ∃ y, ks[i]? = some y := ⟨ks[i], List.getElem?_eq_getElem hlt⟩
     have hw : IntKind.i64.wrap ((i : Int) + 1) = (i : Int) + 1 := wrap64_id (by omega) (by omega)
     have hT := rtextr_told y (hks y (List.mem_of_getElem? hy))
     (repeat (first | refine pass ?_ | refine VC.region (by rfl) (by rfl) ?_ | (refine AO.step fun K hK => ?_; simp only [cells_mk, List.length_map, List.getElem?_map, hy, sPV, len_cells, take_cells, take_cellsC, go_sem, Int.reduceBEq, Int.reduceLE, Int.reduceLT, Int.reduceNeg, Nat.reduceAdd, Nat.reduceEqDiff, Nat.reduceLT, Nat.reduceLeDiff, Nat.reduceMul, Nat.reduceSub, reduceCtorEq, ↓reduceIte]; (first | refine gsel_skip ?_ | refine gsel_go ?_ | skip); (first | refine hK _ _ _ ?_ | refine ⟨by first | omega | exact ⟨_, rfl, rfl⟩ | exact fun _ => ⟨_, rfl, rfl⟩ | (intro h; simp only [cells_mk, List.length_map, List.getElem?_map, hy, sPV, len_cells, take_cells, take_cellsC, h, true_and]; omega) | (clear hK; intro h; simp_all <;> omega), hK _ _ _ ?_⟩); clear hK K) | refine VC.draw mixP (by rfl) (by rfl) ?_ | refine ⟨okd_of (by kernel_rfl), ?_⟩ | refine BQ.other (by decide) ?_ | refine VC.seq ?_ | refine AO.nil ?_ | refine VC.block ?_))
     refine walkCF (@cells_mk) (hT) ?_
     refine walkGF (@cells_mk) ?_
     refine VC.cond (by rfl) (by trivial) (fun hc3 => ?_) (fun hc3 => ?_)
     · have hf : V = false := by
        rw [hv]
        have : ks.all isRight = false := by
         rw [List.all_eq_false]
         exact ⟨y, List.mem_of_getElem? hy, by simpa using hc3⟩
        rw [this]
        rfl
       subst hf
       refine walkBF (@cells_mk) ?_
       refine retX Tryz.results157 ?_
       exact .c _
     refine walkGF (@cells_mk) ?_
     refine VC.loop (ι := {j : Nat // j ≤ i ∧ y ∉ ks.take j})
      (fun q => [(1, .ref 0 1 0 0), (3, .c (.v (.int .i64 (i : Int)))), (4, .c (.v (.int .i64 (q.1 : Int))))]) (fun q => [(0, ⟨false, 36, 5, [(JT.mk k n s ks xs).cells.map .c]⟩)]) 2000 (fun q => i - q.1) ⟨0, Nat.zero_le _, by simp⟩ ?_ ?_
     · exact weakZF (@cells_mk)
     · rintro ⟨j, hj, hn⟩
       simp only []
       refine walkGF (@cells_mk) ?_
       refine VC.cond (by rfl) (by trivial) (fun hc4 => ?_) (fun hc4 => ?_)
       · have hjt : j < i := by simp at hc4; omega
         obtain ⟨z, hz⟩ : ∃ z, ks[j]? = some z := ⟨ks[j], List.getElem?_eq_getElem (by omega)⟩
         have hwj : IntKind.i64.wrap ((j : Int) + 1) = (j : Int) + 1 := wrap64_id (by omega) (by omega)
         (repeat (first | refine pass ?_ | refine VC.region (by rfl) (by rfl) ?_ | (refine AO.step fun K hK => ?_; simp only [cells_mk, List.length_map, List.getElem?_map, hy, hz, sPV, len_cells, take_cells, take_cellsC, str_toList, go_sem, Int.reduceBEq, Int.reduceLE, Int.reduceLT, Int.reduceNeg, Nat.reduceAdd, Nat.reduceEqDiff, Nat.reduceLT, Nat.reduceLeDiff, Nat.reduceMul, Nat.reduceSub, reduceCtorEq, ↓reduceIte]; (first | refine gsel_skip ?_ | refine gsel_go ?_ | skip); (first | refine hK _ _ _ ?_ | refine ⟨by first | omega | exact ⟨_, rfl, rfl⟩ | exact fun _ => ⟨_, rfl, rfl⟩ | (intro h; simp only [cells_mk, List.length_map, List.getElem?_map, hy, hz, sPV, len_cells, take_cells, take_cellsC, str_toList, h, true_and]; omega) | (clear hK; intro h; simp_all <;> omega), hK _ _ _ ?_⟩); clear hK K) | refine VC.draw mixP (by rfl) (by rfl) ?_ | refine ⟨okd_of (by kernel_rfl), ?_⟩ | refine BQ.other (by decide) ?_ | refine VC.seq ?_ | refine AO.nil ?_ | refine VC.block ?_))
         refine VC.cond (by rfl) (by trivial) (fun hc5 => ?_) (fun hc5 => ?_)
         · have hf : V = false := by
            rw [hv]
            have : decide ks.Nodup = false := by
             rw [decide_eq_false_iff_not]
             intro hnd
             have hzy : z = y := by simpa using hc5
             subst hzy
             exact absurd ((List.getElem?_inj (by omega) hnd).1 (hz.trans hy.symm)) (by omega)
            rw [this]
            simp
           subst hf
           refine walkBF (@cells_mk) ?_
           refine retX Tryz.results157 ?_
           exact .c _
         refine walkGF (hwj) ?_
         refine .next ⟨j + 1, by omega, ?_⟩ ?_ (by simp only []; omega)
         · rw [takeN hz]
           have hzy : z ≠ y := by simpa using hc5
           simp [hn, Ne.symm hzy]
         simp only [cells_mk, Weak, eq_self, used_is, sc_any, sc_c, sc_pp, sc_ref, sc_row, sc_agg, sc_fn, ScL, some_imp, List.forall_mem_map, go_sem, Int.reduceBEq, Int.reduceLE, Int.reduceLT, Int.reduceNeg, Nat.reduceAdd, Nat.reduceEqDiff, Nat.reduceLT, Nat.reduceLeDiff, Nat.reduceMul, Nat.reduceSub, reduceCtorEq, ↓reduceIte]
         try exact cI (by omega)
       · have hji : j = i := by simp at hc4; omega
         refine walkGF (hw) ?_
         refine .next ⟨i + 1, by omega, ?_, ?_⟩ ?_ (by simp only []; omega)
         · rw [takeN hy]
           intro u hu
           rcases List.mem_append.1 hu with h | h
           · exact hr u h
           · obtain rfl := List.mem_singleton.1 h
             simpa using hc3
         · rw [takeN hy, List.nodup_append]
           refine ⟨hd, by simp, ?_⟩
           intro a ha b hb
           obtain rfl := List.mem_singleton.1 hb
           rintro rfl
           exact hn (hji ▸ ha)
         simp only [cells_mk, Weak, eq_self, used_is, sc_any, sc_c, sc_pp, sc_ref, sc_row, sc_agg, sc_fn, ScL, some_imp, List.forall_mem_map, go_sem, Int.reduceBEq, Int.reduceLE, Int.reduceLT, Int.reduceNeg, Nat.reduceAdd, Nat.reduceEqDiff, Nat.reduceLT, Nat.reduceLeDiff, Nat.reduceMul, Nat.reduceSub, reduceCtorEq, ↓reduceIte]
         try exact cI (by omega)
   · have hie : i = ks.length := by simp at hc2; omega
     subst hie
     rw [List.take_length] at hr hd
     have hv : V = rshapes xs := by
      rw [hv, List.all_eq_true.2 hr]
      simp [hd]
     refine walkGF (@cells_mk) ?_
     refine VC.loop (ι := {i : Nat // i ≤ xs.length ∧ (∀ y ∈ xs.take i, rshape y = true)})
      (fun q => [(1, .ref 0 1 0 0), (5, .c (.v (.int .i64 (q.1 : Int))))]) (fun q => [(0, ⟨false, 36, 5, [(JT.mk k n s ks xs).cells.map .c]⟩)]) 2000 (fun q => xs.length - q.1) ⟨0, Nat.zero_le _, by simp⟩ ?_ ?_
     · exact weakZF (@cells_mk)
     · rintro ⟨i, hi, hr⟩
       simp only []
       refine walkGF (@cells_mk) ?_
       refine VC.cond (by rfl) (by trivial) (fun hc3 => ?_) (fun hc3 => ?_)
       · have hlt : i < xs.length := by simp at hc3; omega
         obtain ⟨y, hy⟩ : ∃ y, xs[i]? = some y := ⟨xs[i], List.getElem?_eq_getElem hlt⟩
         have hw : IntKind.i64.wrap ((i : Int) + 1) = (i : Int) + 1 := wrap64_id (by omega) (by omega)
         have hyc : (xs.map JT.cells)[i]? = some y.cells := by rw [List.getElem?_map, hy]; rfl
         have hT := hx y (List.mem_of_getElem? hy)
         simp only [JT.av] at hT
         refine walkGF (And.intro @cells_mk (And.intro hyc (And.intro @len_cells (And.intro @take_cells @take_cellsC)))) ?_
         refine walkCF (And.intro @len_cells (And.intro @take_cells (And.intro @take_cellsC @pureL_c))) (hT) ?_
         refine walkGF (@cells_mk) ?_
         refine VC.cond (by rfl) (by trivial) (fun hc5 => ?_) (fun hc5 => ?_)
         · have hf : V = false := by
            rw [hv, rshapes_all, List.all_eq_false]
            exact ⟨y, List.mem_of_getElem? hy, by simpa using hc5⟩
           subst hf
           refine walkBF (@cells_mk) ?_
           refine retX Tryz.results157 ?_
           exact .c _
         refine walkGF (hw) ?_
         refine .next ⟨i + 1, by omega, ?_⟩ ?_ (by simp only []; omega)
         · rw [takeN hy]
           intro u hu
           rcases List.mem_append.1 hu with h | h
           · exact hr u h
           · obtain rfl := List.mem_singleton.1 h
             simpa using hc5
         simp only [cells_mk, Weak, eq_self, used_is, sc_any, sc_c, sc_pp, sc_ref, sc_row, sc_agg, sc_fn, ScL, some_imp, List.forall_mem_map, go_sem, Int.reduceBEq, Int.reduceLE, Int.reduceLT, Int.reduceNeg, Nat.reduceAdd, Nat.reduceEqDiff, Nat.reduceLT, Nat.reduceLeDiff, Nat.reduceMul, Nat.reduceSub, reduceCtorEq, ↓reduceIte]
         try exact cI (by omega)
       · have hie : i = xs.length := by simp at hc3; omega
         subst hie
         rw [List.take_length] at hr
         have hf : V = true := by
          rw [hv, rshapes_all, List.all_eq_true.2 hr]
         subst hf
         refine walkGF (@cells_mk) ?_
         refine retX Tryz.results157 ?_
         exact .c _

theorem rdeep_told : ∀ (m : Nat) (t : JT), SizeOf.sizeOf t ≤ m → tdeep t ≤ 1000 → Told Tryz.prog 56 [t.av] (.c (.v (.int .i64 (tdeep t)))) := by
 intro m
 induction m with
 | zero => intro t ht; cases t; simp at ht
 | succ m ih =>
 intro t ht hd
 cases t with
 | mk k n s ks xs =>
 refine VC.told ent_56 Tryz.func56 rfl Tryz.ntmps56 (by simp) rfl rfl fun hb => ?_
 simp only [JT.av, cells_mk, List.map_cons, List.map_nil, abd_agg, abd_c, pbd_v, pbd_sl, List.mem_cons, List.not_mem_nil, or_false, forall_eq_or_imp, forall_eq, true_and, List.length_map] at hb ⊢
 have hxl := hb.1.1
 clear hb
 refine walkG ?_
 refine VC.cond (by rfl) (by trivial) (fun hc => ?_) (fun hc => ?_)
 · have hk : ¬ (k = 5 ∨ k = 6) := by
    simp at hc
    omega
   have hdd : tdeep (.mk k n s ks xs) = 0 := by simp [tdeep, hk]
   rw [hdd]
   refine walkG ?_
   refine ⟨.inr rfl, ?_⟩
   rw [Tryz.results56]
   simp only [resOk, resV, go_sem, simprocAttr]
   exact .c _
 · have hk : k = 5 ∨ k = 6 := by
    simp at hc
    omega
   have hdd : tdeep (.mk k n s ks xs) = tdeeps 1 xs := by simp [tdeep, hk]
   rw [hdd] at hd ⊢
   clear hc
   refine walkG ?_
   refine VC.loop (ι := {i : Nat // i ≤ xs.length}) (fun i => [(1, .ref 0 1 0 0), (3, .c (.v (.int .i64 (tdeeps 1 (xs.take i.1))))), (4, .c (.v (.int .i64 i.1)))])
    (fun _ => [(0, ⟨false, 36, 5, [(JT.mk k n s ks xs).cells.map .c]⟩)]) 8 (fun i => xs.length - i.1) ⟨0, Nat.zero_le _⟩ ?_ ?_
   · simp only [List.take_zero, tdeeps, cells_mk, Weak, eq_self, used_is, sc_any, sc_c, sc_pp, sc_ref, sc_row, sc_agg, sc_fn, ScL, some_imp, List.forall_mem_map, go_sem, Int.reduceBEq, Int.reduceLE, Int.reduceLT, Int.reduceNeg, Nat.reduceAdd, Nat.reduceEqDiff, Nat.reduceLT, Nat.reduceLeDiff, Nat.reduceMul, Nat.reduceSub, reduceCtorEq, ↓reduceIte]
     all_goals rfl
   rintro ⟨i, hi⟩
   refine walkGF (@cells_mk) ?_
   refine VC.cond (by rfl) (by trivial) (fun hc => ?_) (fun hc => ?_)
   · simp only [decide_eq_true_eq] at hc
     have hlt : i < xs.length := by omega
     obtain ⟨x, hx⟩ : ∃ x, xs[i]? = some x := ⟨xs[i], List.getElem?_eq_getElem hlt⟩
     have hxm := List.mem_of_getElem? hx
     have hle := (tdeeps_le xs 1).2 x hxm
     have hcall := ih x (by
      have h1 := List.sizeOf_lt_of_mem hxm
      simp at ht
      omega) (by omega)
     have hmm : tdeeps 1 (xs.take (i + 1)) = max (tdeeps 1 (xs.take i)) (1 + tdeep x) := by
      rw [← tdeeps_snoc, List.take_add_one, hx]
      rfl
     have hw : IntKind.i64.wrap ((tdeep x : Int) + 1) = (tdeep x : Int) + 1 := wrap64_id (by omega) (by omega)
     have hw2 : IntKind.i64.wrap ((i : Int) + 1) = (i : Int) + 1 := wrap64_id (by omega) (by omega)
     (repeat (first | refine pass ?_ | refine VC.region (by rfl) (by rfl) ?_ | (refine AO.step fun K hK => ?_; simp only [cells_mk, List.getElem?_map, hx, len_cells, take_cells, take_cellsC, go_sem, Int.reduceBEq, Int.reduceLE, Int.reduceLT, Int.reduceNeg, Nat.reduceAdd, Nat.reduceEqDiff, Nat.reduceLT, Nat.reduceLeDiff, Nat.reduceMul, Nat.reduceSub, reduceCtorEq, ↓reduceIte]; (first | refine gsel_skip ?_ | refine gsel_go ?_ | skip); (first | refine hK _ _ _ ?_ | refine ⟨by first | omega | exact ⟨_, rfl, rfl⟩ | exact fun _ => ⟨_, rfl, rfl⟩ | (intro h; simp only [cells_mk, List.getElem?_map, hx, len_cells, take_cells, take_cellsC, h, true_and]; omega) | (clear hK; intro h; simp_all <;> omega), hK _ _ _ ?_⟩); clear hK K) | refine VC.draw mixP (by rfl) (by rfl) ?_ | refine ⟨okd_of (by kernel_rfl), ?_⟩ | refine BQ.other (by decide) ?_ | refine VC.seq ?_ | refine AO.nil ?_ | refine VC.block ?_))
     (refine AO.step fun K hK => ?_; simp only [go_sem, Int.reduceBEq, Int.reduceLE, Int.reduceLT, Int.reduceNeg, Nat.reduceAdd, Nat.reduceEqDiff, Nat.reduceLT, Nat.reduceLeDiff, Nat.reduceMul, Nat.reduceSub, reduceCtorEq, ↓reduceIte, pureL_c]; (first | refine gsel_go ?_ | skip))
     refine .inl ⟨_, hcall, hK _ _ _ ?_⟩
     clear hK K
     refine walkGF (And.intro hw hw2) ?_
     refine VC.cond (by rfl) (by trivial) (fun hc2 => ?_) (fun hc2 => ?_)
     · simp only [decide_eq_true_eq] at hc2
       refine walkGF (hw2) ?_
       refine .next ⟨i + 1, by omega⟩ ?_ (by simp only []; omega)
       refine weakXF (And.intro hmm @cells_mk) ?_
       exact ⟨cI (by omega), cI (by omega)⟩
     · simp only [decide_eq_false_iff_not] at hc2
       refine walkGF (hw2) ?_
       refine .next ⟨i + 1, by omega⟩ ?_ (by simp only []; omega)
       refine weakXF (And.intro hmm @cells_mk) ?_
       exact ⟨cI (by omega), cI (by omega)⟩
   · simp only [decide_eq_false_iff_not] at hc
     obtain rfl : i = xs.length := by omega
     refine walkG ?_
     refine ⟨.inr rfl, ?_⟩
     rw [Tryz.results56]
     simp only [resOk, resV, go_sem, simprocAttr]
     rw [List.take_length]
     exact .c _

theorem rright_told (t : JT) (h1 : t.sm 1000000) (h2 : tdeep t ≤ 1000) : Told Tryz.prog 103 [t.av] (.c (.v (.bool (jR t)))) := by
 have hS := rshape_told _ t (Nat.le_refl _) h1
 have hD := rdeep_told _ t (Nat.le_refl _) h2
 have hV : jR t = (decide ((tdeep t : Int) ≤ 32) && rshape t) := by
  rw [jR_shape]
  congr 1
  by_cases h : tdeep t ≤ 32
  · simp [h]; omega
  · simp [h]; omega
 obtain ⟨V, hVV⟩ : ∃ V, V = jR t := ⟨_, rfl⟩
 rw [← hVV] at hV ⊢
 refine VC.told ent_103 Tryz.func103 rfl Tryz.ntmps103 (by simp) (by simp [AV.pureB, AV.pureL, JT.av, pureL_c]) rfl fun hb => ?_
 clear hb
 refine walkGF (And.intro @JT.av_eq (And.intro @len_cells (And.intro @take_cells @take_cellsC))) ?_
 refine walkCF (And.intro @JT.av_eq (And.intro @len_cells (And.intro @take_cells (And.intro @take_cellsC @pureL_c)))) (hD) ?_
 refine walkGF (And.intro @JT.av_eq (And.intro @len_cells (And.intro @take_cells @take_cellsC))) ?_
 refine walkDF (And.intro @JT.av_eq (And.intro @len_cells (And.intro @take_cells (And.intro @take_cellsC @pureL_c)))) (hS) ?_
 refine walkG ?_
 refine retX Tryz.results103 ?_
 rw [hV]
 exact .c _

def partN (n : NT) : NT := ⟨n.kind, if namedK n.kind = true then n.name else [], if namedK n.kind = true then n.aliases else [], if n.kind = 9 then n.fields else [], if n.kind = 10 then n.symbols else [], if n.kind = 10 then n.has else false,
 if n.kind = 10 then n.dflt else [], if n.kind = 14 then n.size else 0, if n.kind = 11 ∨ n.kind = 12 then n.items else 0, if n.kind = 13 then n.branches else []⟩
theorem bareM_part (n : NT) : bareM n = ceq n (partN n) := by
 obtain ⟨k, a, b, c, d, e, f, g, h, i⟩ := n
 rw [Bool.eq_iff_iff, ceq_iff, partN, NT.mk.injEq, bareM]
 simp only [Bool.and_eq_true, Bool.or_eq_true, List.isEmpty_iff, beq_iff_eq, Bool.not_eq_true', true_and]
 constructor
 · rintro ⟨h1, h2, h3, h4, h5, h6⟩
   refine ⟨?_, ?_, ?_, ?_, ?_, ?_, ?_, ?_, ?_⟩
   · split
     · rfl
     · rename_i hn
       rcases h1 with h1 | h1
       · exact absurd h1 hn
       · exact h1.1
   · split
     · rfl
     · rename_i hn
       rcases h1 with h1 | h1
       · exact absurd h1 hn
       · exact h1.2
   · split
     · rfl
     · rename_i hn
       rcases h2 with h2 | h2
       · exact absurd h2 hn
       · exact h2
   · split
     · rfl
     · rename_i hn
       rcases h3 with h3 | h3
       · exact absurd h3 hn
       · exact h3.1
   · split
     · rfl
     · rename_i hn
       rcases h3 with h3 | h3
       · exact absurd h3 hn
       · exact h3.2.1
   · split
     · rfl
     · rename_i hn
       rcases h3 with h3 | h3
       · exact absurd h3 hn
       · exact h3.2.2
   · split
     · rfl
     · rename_i hn
       rcases h4 with h4 | h4
       · exact absurd h4 hn
       · exact h4
   · split
     · rfl
     · rename_i hn
       rcases h5 with (h5 | h5) | h5
       · exact absurd (.inl h5) hn
       · exact absurd (.inr h5) hn
       · exact h5
   · split
     · rfl
     · rename_i hn
       rcases h6 with h6 | h6
       · exact absurd h6 hn
       · exact h6
 · rintro ⟨h1, h2, h3, h4, h5, h6, h7, h8, h9⟩
   refine ⟨?_, ?_, ?_, ?_, ?_, ?_⟩
   · by_cases hn : namedK k = true
     · exact .inl hn
     · rw [if_neg hn] at h1 h2
       exact .inr ⟨h1, h2⟩
   · by_cases hn : k = 9
     · exact .inl hn
     · rw [if_neg hn] at h3
       exact .inr h3
   · by_cases hn : k = 10
     · exact .inl hn
     · rw [if_neg hn] at h4 h5 h6
       exact .inr ⟨h4, h5, h6⟩
   · by_cases hn : k = 14
     · exact .inl hn
     · rw [if_neg hn] at h7
       exact .inr h7
   · by_cases hn : k = 11 ∨ k = 12
     · rcases hn with hn | hn
       · exact .inl (.inl hn)
       · exact .inl (.inr hn)
     · rw [if_neg hn] at h8
       exact .inr h8
   · by_cases hn : k = 13
     · exact .inl hn
     · rw [if_neg hn] at h9
       exact .inr h9
theorem branchesM_snoc {ns : List NT} : ∀ (l d : List Int) (k : Int), branchesM ns d (l ++ [k]) = (branchesM ns d l && branchM ns (d ++ l) k)
 | [], d, k => by simp [branchesM]
 | x :: l, d, k => by
   rw [List.cons_append, branchesM, branchesM, branchesM_snoc l (d ++ [x]) k, Bool.and_assoc, List.append_assoc]
   rfl
theorem rsame10_told (a b : NT) : Told Tryz.prog 148 [a.av, b.av] (.c (.v (.bool (ceq a b)))) := by
 have hO := rone_told a b
 obtain ⟨V, hV⟩ : ∃ V, V = ceq a b := ⟨_, rfl⟩
 rw [← hV] at hO ⊢
 simp only [NT.av_eq] at hO
 rw [NT.av_eq, NT.av_eq]
 refine VC.toldP ent_148 Tryz.func148 rfl Tryz.ntmps148 fun hb => ?_
 clear hb
 refine walkGF (And.intro @len_ncells (And.intro @take_ncells @take_ncellsC)) ?_
 refine walkCF (@pureL_c) (hO) ?_
 refine walkG ?_
 refine retX Tryz.results148 ?_
 exact .c _
def okN (n : NT) : Bool := !namedK n.kind || (fullM n.name && (kindM n.name == 0 && allM fullM n.aliases))
theorem rnode_told (s : ST) (n : NT) (hsm : n.sm 1000000) (hbr : n.kind = 13 → ∀ k ∈ n.branches, 0 ≤ k ∧ k < (s.nodes.length : Int)) (hdp : ∀ f ∈ n.fields, tdeep f.dflt ≤ 1000) : Told Tryz.prog 90 [s.av, n.av] (.c (.v (.bool (nodeM s.nodes n)))) := by
 obtain ⟨V, hV⟩ : ∃ V, V = nodeM s.nodes n := ⟨_, rfl⟩
 rw [← hV]
 unfold nodeM at hV
 obtain ⟨hn1, hn2, ⟨ha1, ha2⟩, ⟨hs1, hs2⟩, hb1, hf1, hf2⟩ := hsm
 have hN := rnamed10_told n.kind
 have hF := rfull_told n.name (by omega)
 have hKd := rkind_told n.name
 have hSame := rsame10_told n (partN n)
 rw [← bareM_part] at hSame
 have hpart : partN n = partN n := rfl
 obtain ⟨bB, hBB⟩ : ∃ b, b = bareM n := ⟨_, rfl⟩
 rw [← hBB] at hV hSame
 obtain ⟨X, hX⟩ : ∃ X, X = okN n := ⟨_, rfl⟩
 have hX0 := hX
 unfold okN at hX0
 rw [← hX0] at hV
 obtain ⟨bF, hFF⟩ : ∃ b, b = fullM n.name := ⟨_, rfl⟩
 obtain ⟨kK, hKK⟩ : ∃ b, b = kindM n.name := ⟨_, rfl⟩
 rw [← hFF] at hX0 hF
 rw [← hKK] at hX0 hKd
 rw [NT.av_eq, ncells_mk, ST.av_eq, scells_mk]
 simp only [NT.av_eq] at hSame
 refine VC.toldP ent_90 Tryz.func90 rfl Tryz.ntmps90 fun hb => ?_
 clear hb
 (refine VC.seq ?_; (first | refine VC.region (by rfl) (by rfl) ?_ | refine VC.draw mixP (by rfl) (by rfl) ?_); (repeat (refine AO.step fun K hK => ?_; simp only [go_sem, Int.reduceBEq, Int.reduceLE, Int.reduceLT, Int.reduceNeg, Nat.reduceAdd, Nat.reduceEqDiff, Nat.reduceLT, Nat.reduceLeDiff, Nat.reduceMul, Nat.reduceSub, reduceCtorEq, ↓reduceIte]; (first | refine gsel_skip ?_ | refine gsel_go ?_ | skip); (first | refine hK _ _ _ ?_ | refine ⟨by first | omega | exact ⟨_, rfl, rfl⟩ | exact fun _ => ⟨_, rfl, rfl⟩ | (intro h; simp only [h, true_and]; omega) | (clear hK; intro h; simp_all <;> omega), hK _ _ _ ?_⟩); clear hK K)); refine AO.nil ?_; first | refine SQ.normal ?_ | refine ⟨okd_of (by kernel_rfl), SQ.normal ?_⟩)
 (refine VC.seq ?_; (first | refine VC.region (by rfl) (by rfl) ?_ | refine VC.draw mixP (by rfl) (by rfl) ?_); (repeat (refine AO.step fun K hK => ?_; simp only [go_sem, Int.reduceBEq, Int.reduceLE, Int.reduceLT, Int.reduceNeg, Nat.reduceAdd, Nat.reduceEqDiff, Nat.reduceLT, Nat.reduceLeDiff, Nat.reduceMul, Nat.reduceSub, reduceCtorEq, ↓reduceIte]; (first | refine gsel_skip ?_ | refine gsel_go ?_ | skip); (first | refine hK _ _ _ ?_ | refine ⟨by first | omega | exact ⟨_, rfl, rfl⟩ | exact fun _ => ⟨_, rfl, rfl⟩ | (intro h; simp only [h, true_and]; omega) | (clear hK; intro h; simp_all <;> omega), hK _ _ _ ?_⟩); clear hK K)); refine AO.nil ?_; first | refine SQ.normal ?_ | refine ⟨okd_of (by kernel_rfl), SQ.normal ?_⟩)
 refine VC.frz [] [(2, .ref 0 1 0 0), (3, .ref 8 1 0 0), (5, .ref 48 1 0 0)] [(0, ⟨false, 24, 2, [s.cells.map .c]⟩), (8, ⟨false, 33, 10, [n.cells.map .c]⟩), (48, ⟨false, 33, 10, [(⟨n.kind, [], [], [], [], false, [], 0, 0, []⟩ : NT).cells.map .c]⟩)] 400 ?_ ?_
 · simp only [ncells_mk, scells_mk, WeakF, used_is, sc_any, sc_c, sc_pp, sc_ref, sc_row, sc_agg, sc_fn, ScL, some_imp, List.forall_mem_map, go_sem, Int.reduceBEq, Int.reduceLE, Int.reduceLT, Int.reduceNeg, Nat.reduceAdd, Nat.reduceEqDiff, Nat.reduceLT, Nat.reduceLeDiff, Nat.reduceMul, Nat.reduceSub, reduceCtorEq, ↓reduceIte]
   exact ⟨⟨.same _, .same _, .same _⟩, .same _, .same _, .one (.cons (.same _) (.cons (.same _) (.cons (.nil 1) (.cons (.nil 9) (.cons (.nil 1) (.cons (.same _) (.cons (.same _) (.cons (.same _) (.cons (.same _) (.cons (.nil 1) .nil)))))))))) (by simp [AV.cellish])⟩
 refine walkGF (And.intro @ncells_mk @scells_mk) ?_
 refine walkC (hN) ?_
 refine walkG ?_
 refine VC.meetF (ι := {u : Unit // X = true}) (fun _ => [(2, .ref 0 1 0 0), (3, .ref 8 1 0 0), (5, .ref 48 1 0 0)]) (fun _ => [(0, ⟨false, 24, 2, [s.cells.map .c]⟩), (8, ⟨false, 33, 10, [n.cells.map .c]⟩), (48, ⟨false, 33, 10, [(⟨n.kind, (partN n).name, (partN n).aliases, [], [], false, [], 0, 0, []⟩ : NT).cells.map .c]⟩)]) 4000 ?_ ?_
 · refine VC.cond (by rfl) (by trivial) (fun hc => ?_) (fun hc => ?_)
   · have hpn : (partN n).name = n.name := by simp [partN, hc]
     have hpa : (partN n).aliases = n.aliases := by simp [partN, hc]
     rw [hc, Bool.not_true, Bool.false_or] at hX0
     refine walkGF (And.intro @ncells_mk @scells_mk) ?_
     refine walkC (hF) ?_
     refine walkGF (@ncells_mk) ?_
     refine walkD (hKd) ?_
     refine walkGF (@ncells_mk) ?_
     refine VC.cond (by rfl) (by trivial) (fun hc2 => ?_) (fun hc2 => ?_)
     · have hf : V = false := by
        have : X = false := by
         rw [hX0, allM]
         cases bF with
         | false => rfl
         | true =>
           cases hk0 : kK == 0 with
           | false => simp
           | true =>
             have hk1 : kK = 0 := by simpa using hk0
             have hl : ¬ n.aliases.length ≤ 40 := by
              simp [hk1] at hc2
              omega
             simp [hl]
        rw [hV, this]
        simp
       subst hf
       refine walkG ?_
       refine retX Tryz.results90 ?_
       exact .c _
     · obtain ⟨hbf, hk0, hl40⟩ : bF = true ∧ kK = 0 ∧ n.aliases.length ≤ 40 := by
        cases bF <;> simp at hc2 ⊢
        omega
       have hXa : X = n.aliases.all fullM := by
        rw [hX0, allM, hbf, hk0]
        simp [hl40]
       refine walkG ?_
       refine VC.loop (ι := {i : Nat // i ≤ n.aliases.length ∧ ∀ (j : Nat) (x : List UInt8), j < i → n.aliases[j]? = some x → fullM x = true}) (fun q => [(2, .ref 0 1 0 0), (3, .ref 8 1 0 0), (5, .ref 48 1 0 0), (6, .c (.v (.int .i64 (q.1 : Int))))])
        (fun _ => [(0, ⟨false, 24, 2, [s.cells.map .c]⟩), (8, ⟨false, 33, 10, [n.cells.map .c]⟩), (48, ⟨false, 33, 10, [(⟨n.kind, n.name, n.aliases, [], [], false, [], 0, 0, []⟩ : NT).cells.map .c]⟩)]) 2000 (fun q => n.aliases.length - q.1) ⟨0, Nat.zero_le _, fun j x h => by omega⟩ ?_ ?_
       · exact weakZF (And.intro @ncells_mk @scells_mk)
       rintro ⟨i, hi, ht⟩
       simp only []
       refine walkGF (@ncells_mk) ?_
       refine VC.cond (by rfl) (by trivial) (fun hc3 => ?_) (fun hc3 => ?_)
       · have hlt : i < n.aliases.length := by simp at hc3; omega
         obtain ⟨x, hx⟩ : ∃ x, n.aliases[i]? = some x := ⟨n.aliases[i], List.getElem?_eq_getElem hlt⟩
         have hw : IntKind.i64.wrap ((i : Int) + 1) = (i : Int) + 1 := wrap64_id (by omega) (by omega)
         have hxp : (n.aliases.map sPV)[i]? = some (sPV x) := by rw [List.getElem?_map, hx]; rfl
         have hFx := rfull_told x (by have := ha2 x (List.mem_of_getElem? hx); omega)
         refine walkGF (And.intro @ncells_mk (And.intro hxp @sPV_eq)) ?_
         refine walkC (hFx) ?_
         refine walkG ?_
         refine VC.cond (by rfl) (by trivial) (fun hc4 => ?_) (fun hc4 => ?_)
         · have hf : V = false := by
            have : X = false := by
             rw [hXa, List.all_eq_false]
             exact ⟨x, List.mem_of_getElem? hx, by simpa using hc4⟩
            rw [hV, this]
            simp
           subst hf
           refine walkG ?_
           refine retX Tryz.results90 ?_
           exact .c _
         · have hfx : fullM x = true := by simpa using hc4
           refine walkGF (hw) ?_
           refine .next ⟨i + 1, by omega, ?_⟩ ?_ (by simp only []; omega)
           · intro j y hj hy
             by_cases hji : j < i
             · exact ht j y hji hy
             · obtain rfl : j = i := by omega
               rw [hx] at hy
               obtain rfl := Option.some.inj hy
               exact hfx
           refine weakXF (And.intro @ncells_mk @scells_mk) ?_
           exact cI (by omega)
       · have hie : i = n.aliases.length := by simp at hc3; omega
         have hXt : X = true := by
          rw [hXa, List.all_eq_true]
          intro y hy
          obtain ⟨j, hj⟩ := List.getElem?_of_mem hy
          exact ht j y (by have := (List.getElem?_eq_some_iff.1 hj).1; omega) hj
         refine walkG ?_
         refine .normal ⟨(), hXt⟩ ?_
         exact weakZF (And.intro @ncells_mk (And.intro @scells_mk (And.intro hpn hpa)))
   · have hpn : (partN n).name = [] := by simp [partN, hc]
     have hpa : (partN n).aliases = [] := by simp [partN, hc]
     refine walkG ?_
     refine .normal ⟨(), by rw [hX0, hc]; rfl⟩ ?_
     exact weakZF (And.intro @ncells_mk (And.intro @scells_mk (And.intro hpn hpa)))
 rintro ⟨_, hXt⟩
 rw [hXt, Bool.true_and] at hV
 clear hX hX0 hXt hN hF hKd hFF hKK ha2
 (refine VC.seq ?_; (first | refine VC.region (by rfl) (by rfl) ?_ | refine VC.draw mixP (by rfl) (by rfl) ?_); (repeat (refine AO.step fun K hK => ?_; simp only [ncells_mk, go_sem, Int.reduceBEq, Int.reduceLE, Int.reduceLT, Int.reduceNeg, Nat.reduceAdd, Nat.reduceEqDiff, Nat.reduceLT, Nat.reduceLeDiff, Nat.reduceMul, Nat.reduceSub, reduceCtorEq, ↓reduceIte]; (first | refine gsel_skip ?_ | refine gsel_go ?_ | skip); (first | refine hK _ _ _ ?_ | refine ⟨by first | omega | exact ⟨_, rfl, rfl⟩ | exact fun _ => ⟨_, rfl, rfl⟩ | (intro h; simp only [ncells_mk, h, true_and]; omega) | (clear hK; intro h; simp_all <;> omega), hK _ _ _ ?_⟩); clear hK K)); refine AO.nil ?_; first | refine SQ.normal ?_ | refine ⟨okd_of (by kernel_rfl), SQ.normal ?_⟩)
 refine VC.seq ?_
 refine VC.meetF (ι := {ok : Bool // V = (ok && bB)}) (fun q => [(2, .ref 0 1 0 0), (3, .ref 8 1 0 0), (5, .ref 48 1 0 0), (7, .c (.v (.bool q.1)))]) (fun _ => [(0, ⟨false, 24, 2, [s.cells.map .c]⟩), (8, ⟨false, 33, 10, [n.cells.map .c]⟩), (48, ⟨false, 33, 10, [(partN n).cells.map .c]⟩)]) 8000 ?_ ?_
 rotate_left
 · rintro ⟨ok, hok⟩
   simp only []
   simp only [ncells_mk, List.map_cons, List.map_nil] at hSame
   refine walkGF (And.intro @ncells_mk @scells_mk) ?_
   refine walkD (hSame) ?_
   refine walkG ?_
   refine retX Tryz.results90 ?_
   rw [hok]
   exact .c _
 by_cases h9 : n.kind = 9
 · rw [h9] at hV
   have e9 : (n.kind == 9) = true := by simpa using h9
   have o1 : decide (n.kind ≥ 1) = true := by rw [h9]; rfl
   have o2 : decide (n.kind ≤ 14) = true := by rw [h9]; rfl
   have hV9 : V = (fieldsM n.fields && bB) := by rw [hV]; simp [Bool.and_comm]
   clear hV
   have pk : (partN n).kind = n.kind := rfl
   have pf : (partN n).fields = n.fields := by simp [partN, h9]
   have ps : (partN n).symbols = [] := by simp [partN, h9]
   have ph : (partN n).has = false := by simp [partN, h9]
   have pd : (partN n).dflt = [] := by simp [partN, h9]
   have pz : (partN n).size = 0 := by simp [partN, h9]
   have pi : (partN n).items = 0 := by simp [partN, h9]
   have pb : (partN n).branches = [] := by simp [partN, h9]
   refine walkBF (And.intro @ncells_mk e9) ?_
   refine VC.nil 8 9 1 (by rfl) (by trivial) (by rfl) ?_
   refine VC.loop (ι := {i : Nat // i ≤ n.fields.length}) (fun q => [(2, .ref 0 1 0 0), (3, .ref 8 1 0 0), (5, .ref 48 1 0 0), (7, .c (.v (.bool ((n.fields.take q.1).all fieldM)))), (8, .row 4152 q.1), (9, .c (.v (.int .i64 (q.1 : Int))))])
    (fun q => [(0, ⟨false, 24, 2, [s.cells.map .c]⟩), (8, ⟨false, 33, 10, [n.cells.map .c]⟩), (48, ⟨false, 33, 10, [(partN n).cells.map .c]⟩), (4152, ⟨true, 9, 1, rA sPV ((n.fields.map (·.name)).take q.1)⟩)]) 5000 (fun q => n.fields.length - q.1) ⟨0, Nat.zero_le _⟩ ?_ ?_
   · exact weakZF (And.intro @ncells_mk (And.intro @scells_mk (And.intro @rA_len (And.intro @rA_sc (And.intro @rA_nil (And.intro o1 (And.intro o2 (And.intro pk (And.intro pf (And.intro ps (And.intro ph (And.intro pd (And.intro pz (And.intro pi pb))))))))))))))
   rintro ⟨i, hi⟩
   simp only []
   refine walkGF (And.intro @ncells_mk @scells_mk) ?_
   refine VC.cond (by rfl) (by trivial) (fun hc => ?_) (fun hc => ?_)
   · have hlt : i < n.fields.length := by simp at hc; omega
     obtain ⟨f, hx⟩ : ∃ f, n.fields[i]? = some f := ⟨n.fields[i], List.getElem?_eq_getElem hlt⟩
     have hw : IntKind.i64.wrap ((i : Int) + 1) = (i : Int) + 1 := wrap64_id (by omega) (by omega)
     have hxp : (n.fields.map FT.cells)[i]? = some f.cells := by rw [List.getElem?_map, hx]; rfl
     have hln : (rA sPV ((n.fields.map (·.name)).take i)).length = i := by rw [rA_len]; simp; omega
     have hr : rA sPV ((n.fields.map (·.name)).take i) ++ [[.c (.v (.string (str f.name)))]] = rA sPV ((n.fields.map (·.name)).take (i + 1)) := by
      rw [List.take_add_one, List.getElem?_map, hx]
      exact rA_one sPV _ f.name
     have hl2 : (rA sPV ((n.fields.map (·.name)).take (i + 1))).length = i + 1 := by rw [rA_len]; simp; omega
     obtain ⟨g1, g2, g3, g4⟩ := hf2 f (List.mem_of_getElem? hx)
     have hA := rsimples_told f.aliases (by omega) fun x hx => by have := g3 x hx; omega
     have hR := rright_told f.dflt (sm_le (by omega) _ g4) (hdp f (List.mem_of_getElem? hx))
     have hS := rsame_told _ f.dflt jzero (Nat.le_refl _)
     simp only [JT.av] at hR
     have hM : fieldM f = (allM simpleM f.aliases && ((f.has && jR f.dflt) || (!f.has && jeq f.dflt jzero))) := by
      unfold fieldM
      cases f.has <;> simp
     have hnx : (n.fields.take (i + 1)).all fieldM = ((n.fields.take i).all fieldM && fieldM f) := by
      rw [List.take_add_one, hx, List.all_append]
      simp
     obtain ⟨b0, hb0⟩ : ∃ b, b = (n.fields.take i).all fieldM := ⟨_, rfl⟩
     obtain ⟨b1, hb1⟩ : ∃ b, b = allM simpleM f.aliases := ⟨_, rfl⟩
     obtain ⟨b2, hb2⟩ : ∃ b, b = jR f.dflt := ⟨_, rfl⟩
     obtain ⟨b3, hb3⟩ : ∃ b, b = jeq f.dflt jzero := ⟨_, rfl⟩
     rw [hM, ← hb0, ← hb1, ← hb2, ← hb3] at hnx
     rw [← hb0]
     rw [← hb1] at hA
     rw [← hb2] at hR
     rw [← hb3] at hS
     clear hM hb0 hb1 hb2 hb3
     cases hfh : f.has with
     | true =>
       rw [hfh] at hnx
       replace hnx := Lib.hid hnx
       refine walkGF (And.intro @ncells_mk (And.intro @scells_mk (And.intro hxp (And.intro @fcells_mk (And.intro @len_cells (And.intro @take_cells (And.intro @take_cellsC (And.intro hln (And.intro hr hfh))))))))) ?_
       refine walkD (hA) ?_
       refine walkGF (And.intro @fcells_mk (And.intro @len_cells (And.intro @take_cells (And.intro @take_cellsC hfh)))) ?_
       refine walkDF (@pureL_c) (hR) ?_
       refine walkGF (And.intro hfh hw) ?_
       refine .next ⟨i + 1, by omega⟩ ?_ (by simp only []; omega)
       simp only [ncells_mk, scells_mk, hl2, rA_sc, hnx.out, Bool.and_assoc, Weak, eq_self, used_is, sc_any, sc_c, sc_pp, sc_ref, sc_row, sc_agg, sc_fn, ScL, some_imp, List.forall_mem_map, go_sem, Int.reduceBEq, Int.reduceLE, Int.reduceLT, Int.reduceNeg, Nat.reduceAdd, Nat.reduceEqDiff, Nat.reduceLT, Nat.reduceLeDiff, Nat.reduceMul, Nat.reduceSub, reduceCtorEq, ↓reduceIte]
       exact ⟨cI (by omega), Nat.le_refl _⟩
     | false =>
       rw [hfh] at hnx
       replace hnx := Lib.hid hnx
       refine walkGF (And.intro @ncells_mk (And.intro @scells_mk (And.intro hxp (And.intro @fcells_mk (And.intro @len_cells (And.intro @take_cells (And.intro @take_cellsC (And.intro hln (And.intro hr hfh))))))))) ?_
       refine walkD (hA) ?_
       refine walkGF (And.intro @fcells_mk (And.intro @len_cells (And.intro @take_cells (And.intro @take_cellsC hfh)))) ?_
       (refine AO.step fun K hK => ?_; simp only [go_sem, Int.reduceBEq, Int.reduceLE, Int.reduceLT, Int.reduceNeg, Nat.reduceAdd, Nat.reduceEqDiff, Nat.reduceLT, Nat.reduceLeDiff, Nat.reduceMul, Nat.reduceSub, reduceCtorEq, ↓reduceIte]; (first | refine gsel_go ?_ | skip))
       refine .inr (.inl ⟨.c (.v (.bool b3)), [f.dflt.av, jzero.av], [], fun hg => ⟨hg, by simp [AV.pureL, AV.pureB, JT.av, pureL_c], rfl, fun k x z h5 h6 => ?_, rfl, hS⟩, hK _ _ _ ?_⟩)
       · match k with
         | 0 => obtain rfl := Option.some.inj h5; obtain rfl := Option.some.inj h6; exact .same _
         | 1 => obtain rfl := Option.some.inj h5; obtain rfl := Option.some.inj h6; exact view_jzero _
         | k + 2 => simp at h5
       clear hK K
       refine walkGF (And.intro hfh hw) ?_
       refine .next ⟨i + 1, by omega⟩ ?_ (by simp only []; omega)
       simp only [ncells_mk, scells_mk, hl2, rA_sc, hnx.out, Bool.and_assoc, Weak, eq_self, used_is, sc_any, sc_c, sc_pp, sc_ref, sc_row, sc_agg, sc_fn, ScL, some_imp, List.forall_mem_map, go_sem, Int.reduceBEq, Int.reduceLE, Int.reduceLT, Int.reduceNeg, Nat.reduceAdd, Nat.reduceEqDiff, Nat.reduceLT, Nat.reduceLeDiff, Nat.reduceMul, Nat.reduceSub, reduceCtorEq, ↓reduceIte]
       exact ⟨cI (by omega), Nat.le_refl _⟩
   · have hie : i = n.fields.length := by simp at hc; omega
     have htk : (n.fields.map (·.name)).take i = n.fields.map (·.name) := List.take_of_length_le (by simp; omega)
     have htf : n.fields.take i = n.fields := List.take_of_length_le (by omega)
     rw [htk, htf]
     have hrl : (rA sPV (n.fields.map (·.name))).length = i := by rw [rA_len]; simp; omega
     have hA := rsimples_told (n.fields.map (·.name)) (by simp; omega) fun x hx => by
      obtain ⟨f, hf, rfl⟩ := List.mem_map.1 hx
      have := (hf2 f hf).1
      omega
     have hO := ronce_told (n.fields.map (·.name)) (by simp; omega)
     have hFi : fieldsM n.fields = ((n.fields.all fieldM && allM simpleM (n.fields.map (·.name))) && decide (n.fields.map (·.name)).Nodup) := by
      unfold fieldsM diffM allM
      simp [Bool.and_assoc]
     obtain ⟨b0, hb0⟩ : ∃ b, b = n.fields.all fieldM := ⟨_, rfl⟩
     obtain ⟨b1, hb1⟩ : ∃ b, b = allM simpleM (n.fields.map (·.name)) := ⟨_, rfl⟩
     obtain ⟨b2, hb2⟩ : ∃ b, b = decide (n.fields.map (·.name)).Nodup := ⟨_, rfl⟩
     rw [← hb0, ← hb1, ← hb2] at hFi
     rw [← hb0]
     rw [← hb1] at hA
     rw [← hb2] at hO
     clear hb0 hb1 hb2
     replace hFi := Lib.hid hFi
     refine walkGF (And.intro @ncells_mk (And.intro @scells_mk hrl)) ?_
     (refine AO.step fun K hK => ?_; simp only [go_sem, Int.reduceBEq, Int.reduceLE, Int.reduceLT, Int.reduceNeg, Nat.reduceAdd, Nat.reduceEqDiff, Nat.reduceLT, Nat.reduceLeDiff, Nat.reduceMul, Nat.reduceSub, reduceCtorEq, ↓reduceIte, hrl]; (first | refine gsel_go ?_ | skip))
     refine .inr (.inl ⟨.c (.v (.bool b1)), [.c (.sl 1 ((n.fields.map (·.name)).map sPV))], [4152], fun hg => ⟨hg, by simp [AV.pureL, AV.pureB], rfl, fun k x z h5 h6 => ?_, rfl, hA⟩, hK _ _ _ ?_⟩)
     · match k with
       | 0 =>
         obtain rfl := Option.some.inj h5
         obtain rfl := Option.some.inj h6
         exact View.row (B := ⟨true, 9, 1, rA sPV (n.fields.map fun f : FT => f.name)⟩) (es := (n.fields.map fun f : FT => f.name).map sPV) rfl rfl hrl (rA_pv _ _)
       | k + 1 => simp at h5
     clear hK K
     refine walkGF (hrl) ?_
     (refine AO.step fun K hK => ?_; simp only [go_sem, Int.reduceBEq, Int.reduceLE, Int.reduceLT, Int.reduceNeg, Nat.reduceAdd, Nat.reduceEqDiff, Nat.reduceLT, Nat.reduceLeDiff, Nat.reduceMul, Nat.reduceSub, reduceCtorEq, ↓reduceIte, hrl]; (first | refine gsel_go ?_ | skip))
     refine .inr (.inl ⟨.c (.v (.bool b2)), [.c (.sl 1 ((n.fields.map (·.name)).map sPV))], [4152], fun hg => ⟨hg, by simp [AV.pureL, AV.pureB], rfl, fun k x z h5 h6 => ?_, rfl, hO⟩, hK _ _ _ ?_⟩)
     · match k with
       | 0 =>
         obtain rfl := Option.some.inj h5
         obtain rfl := Option.some.inj h6
         exact View.row (B := ⟨true, 9, 1, rA sPV (n.fields.map fun f : FT => f.name)⟩) (es := (n.fields.map fun f : FT => f.name).map sPV) rfl rfl hrl (rA_pv _ _)
       | k + 1 => simp at h5
     clear hK K
     refine walkG ?_
     refine .normal ⟨(b0 && b1) && b2, by rw [hV9, hFi.out]⟩ ?_
     exact weakZF (And.intro @ncells_mk @scells_mk)
 by_cases h10 : n.kind = 10
 · rw [h10] at hV
   have e9 : (n.kind == 9) = false := by simpa using h9
   have e10 : (n.kind == 10) = true := by simpa using h10
   have o1 : decide (n.kind ≥ 1) = true := by rw [h10]; rfl
   have o2 : decide (n.kind ≤ 14) = true := by rw [h10]; rfl
   have hV10 : V = ((((n.has == n.symbols.contains n.dflt) && (n.has || n.dflt.isEmpty)) && (decide (1 ≤ n.symbols.length) && (decide (n.symbols.length ≤ 40) && diffM simpleM n.symbols))) && bB) := by rw [hV]; simp [Bool.and_comm]
   clear hV
   have pk : (partN n).kind = n.kind := rfl
   have pf : (partN n).fields = [] := by simp [partN, h10]
   have ps : (partN n).symbols = n.symbols := by simp [partN, h10]
   have ph : (partN n).has = n.has := by simp [partN, h10]
   have pd : (partN n).dflt = n.dflt := by simp [partN, h10]
   have pz : (partN n).size = 0 := by simp [partN, h10]
   have pi : (partN n).items = 0 := by simp [partN, h10]
   have pb : (partN n).branches = [] := by simp [partN, h10]
   have hE : (⟨#[]⟩ : ByteArray).toList = [] := str_toList []
   refine walkBF (And.intro @ncells_mk (And.intro e9 e10)) ?_
   refine VC.loop (ι := {i : Nat // i ≤ n.symbols.length}) (fun q => [(2, .ref 0 1 0 0), (3, .ref 8 1 0 0), (5, .ref 48 1 0 0), (7, .c (.v (.bool true))), (11, .c (.v (.bool ((n.symbols.take q.1).contains n.dflt)))), (12, .c (.v (.int .i64 (q.1 : Int))))])
    (fun q => [(0, ⟨false, 24, 2, [s.cells.map .c]⟩), (8, ⟨false, 33, 10, [n.cells.map .c]⟩), (48, ⟨false, 33, 10, [(partN n).cells.map .c]⟩)]) 5000 (fun q => n.symbols.length - q.1) ⟨0, Nat.zero_le _⟩ ?_ ?_
   · refine weakXF (And.intro @ncells_mk (And.intro @scells_mk (And.intro o1 (And.intro o2 (And.intro pk (And.intro pf (And.intro ps (And.intro ph (And.intro pd (And.intro pz (And.intro pi pb))))))))))) ?_
     simp
   rintro ⟨i, hi⟩
   simp only []
   refine walkGF (And.intro @ncells_mk @scells_mk) ?_
   refine VC.cond (by rfl) (by trivial) (fun hc => ?_) (fun hc => ?_)
   · have hlt : i < n.symbols.length := by simp at hc; omega
     obtain ⟨x, hx⟩ : ∃ x, n.symbols[i]? = some x := ⟨n.symbols[i], List.getElem?_eq_getElem hlt⟩
     have hw : IntKind.i64.wrap ((i : Int) + 1) = (i : Int) + 1 := wrap64_id (by omega) (by omega)
     have hxp : (n.symbols.map sPV)[i]? = some (sPV x) := by rw [List.getElem?_map, hx]; rfl
     have hnx : (n.symbols.take (i + 1)).contains n.dflt = ((n.symbols.take i).contains n.dflt || (x == n.dflt)) := by
      rw [List.take_add_one, hx, Bool.eq_iff_iff]
      simp
      exact ⟨fun h => h.imp id Eq.symm, fun h => h.imp id Eq.symm⟩
     obtain ⟨b0, hb0⟩ : ∃ b, b = (n.symbols.take i).contains n.dflt := ⟨_, rfl⟩
     rw [← hb0] at hnx ⊢
     clear hb0
     replace hnx := Lib.hid hnx
     refine walkGF (And.intro @ncells_mk (And.intro @scells_mk (And.intro hxp (And.intro @sPV_eq (And.intro @str_toList hw))))) ?_
     refine .next ⟨i + 1, by omega⟩ ?_ (by simp only []; omega)
     refine weakXF (And.intro @ncells_mk (And.intro @scells_mk hnx.out)) ?_
     exact cI (by omega)
   · have hie : i = n.symbols.length := by simp at hc; omega
     rw [show n.symbols.take i = n.symbols by rw [hie, List.take_length]]
     have hA := rsimples_told n.symbols (by omega) fun x hx => by have := hs2 x hx; omega
     have hO := ronce_told n.symbols (by omega)
     have hF : ((((n.has == n.symbols.contains n.dflt) && (n.has || n.dflt.isEmpty)) && (decide (1 ≤ n.symbols.length) && (decide (n.symbols.length ≤ 40) && diffM simpleM n.symbols)))) =
       (((decide ((n.symbols.length : Int) > 0) && allM simpleM n.symbols) && decide n.symbols.Nodup) && ((n.has && n.symbols.contains n.dflt) || (!n.has && (n.dflt == [])))) := by
      have e1 : decide ((n.symbols.length : Int) > 0) = decide (1 ≤ n.symbols.length) := decide_eq_decide.2 (by omega)
      have e2 : n.dflt.isEmpty = (n.dflt == []) := by cases n.dflt <;> rfl
      have e3 : n.symbols.all simpleM = true → (n.dflt == []) = true → n.symbols.contains n.dflt = false := fun ha hd => by
       rw [Bool.eq_false_iff]
       intro hm
       have h1 := List.all_eq_true.1 ha n.dflt (by simpa using hm)
       have h2 : n.dflt = [] := by simpa using hd
       rw [h2] at h1
       exact absurd h1 (by decide)
      rw [e1, e2, diffM, allM]
      generalize decide (1 ≤ n.symbols.length) = x1
      generalize decide (n.symbols.length ≤ 40) = x2
      generalize decide n.symbols.Nodup = x3
      generalize n.symbols.all simpleM = x4 at e3 ⊢
      generalize (n.dflt == []) = x5 at e3 ⊢
      generalize n.symbols.contains n.dflt = x6 at e3 ⊢
      cases x1 <;> cases x2 <;> cases x3 <;> cases x4 <;> cases x5 <;> cases x6 <;> cases n.has <;> simp at e3 ⊢
     obtain ⟨b0, hb0⟩ : ∃ b, b = n.symbols.contains n.dflt := ⟨_, rfl⟩
     obtain ⟨b1, hb1⟩ : ∃ b, b = allM simpleM n.symbols := ⟨_, rfl⟩
     obtain ⟨b2, hb2⟩ : ∃ b, b = decide n.symbols.Nodup := ⟨_, rfl⟩
     rw [hF, ← hb0, ← hb1, ← hb2] at hV10
     rw [← hb0]
     rw [← hb1] at hA
     rw [← hb2] at hO
     clear hb0 hb1 hb2 hF
     cases hnh : n.has with
     | true =>
       rw [hnh] at hV10
       replace hV10 := Lib.hid hV10
       refine walkGF (And.intro @ncells_mk @scells_mk) ?_
       refine walkD (hA) ?_
       refine walkGF (And.intro @ncells_mk @scells_mk) ?_
       refine walkD (hO) ?_
       refine walkGF (And.intro @ncells_mk (And.intro @scells_mk (And.intro @str_toList (And.intro hE hnh)))) ?_
       refine .normal ⟨_, hV10.out⟩ ?_
       exact weakZF (And.intro @ncells_mk @scells_mk)
     | false =>
       rw [hnh] at hV10
       replace hV10 := Lib.hid hV10
       refine walkGF (And.intro @ncells_mk @scells_mk) ?_
       refine walkD (hA) ?_
       refine walkGF (And.intro @ncells_mk @scells_mk) ?_
       refine walkD (hO) ?_
       refine walkGF (And.intro @ncells_mk (And.intro @scells_mk (And.intro @str_toList (And.intro hE hnh)))) ?_
       refine .normal ⟨_, hV10.out⟩ ?_
       exact weakZF (And.intro @ncells_mk @scells_mk)
 by_cases h1112 : n.kind = 11 ∨ n.kind = 12
 · have hV11 : V = (true && bB) := by
    rw [hV, if_neg h9, if_neg h10, if_neg (by omega), if_neg (by omega)]
    have o1 : decide (1 ≤ n.kind) = true := by simp; omega
    have o2 : decide (n.kind ≤ 14) = true := by simp; omega
    rw [o1, o2]
    simp
   have e9 : (n.kind == 9) = false := by simpa using h9
   have e10 : (n.kind == 10) = false := by simpa using h10
   have o1 : decide (n.kind ≥ 1) = true := by simp; omega
   have o2 : decide (n.kind ≤ 14) = true := by simp; omega
   clear hV
   have hz : n.kind ≠ 13 ∧ n.kind ≠ 14 := by omega
   have pk : (partN n).kind = n.kind := rfl
   have pf : (partN n).fields = [] := by simp [partN, h9, h10, h1112, hz.1, hz.2]
   have ps : (partN n).symbols = [] := by simp [partN, h9, h10, h1112, hz.1, hz.2]
   have ph : (partN n).has = false := by simp [partN, h9, h10, h1112, hz.1, hz.2]
   have pd : (partN n).dflt = [] := by simp [partN, h9, h10, h1112, hz.1, hz.2]
   have pz : (partN n).size = 0 := by simp [partN, h9, h10, h1112, hz.1, hz.2]
   have pi : (partN n).items = n.items := by simp [partN, h9, h10, h1112, hz.1, hz.2]
   have pb : (partN n).branches = [] := by simp [partN, h9, h10, h1112, hz.1, hz.2]
   rcases h1112 with h11 | h11
   · have e11 : (n.kind == 11) = true := by simpa using h11
     refine walkBF (And.intro @ncells_mk (And.intro e9 (And.intro e10 e11))) ?_
     refine .normal ⟨true, hV11⟩ ?_
     exact weakZF (And.intro @ncells_mk (And.intro @scells_mk (And.intro o1 (And.intro o2 (And.intro pk (And.intro pf (And.intro ps (And.intro ph (And.intro pd (And.intro pz (And.intro pi pb)))))))))))
   · have e11 : (n.kind == 11) = false := by simp; omega
     have e12 : (n.kind == 12) = true := by simpa using h11
     refine walkBF (And.intro @ncells_mk (And.intro e9 (And.intro e10 (And.intro e11 e12)))) ?_
     refine .normal ⟨true, hV11⟩ ?_
     exact weakZF (And.intro @ncells_mk (And.intro @scells_mk (And.intro o1 (And.intro o2 (And.intro pk (And.intro pf (And.intro ps (And.intro ph (And.intro pd (And.intro pz (And.intro pi pb)))))))))))
 have e9 : (n.kind == 9) = false := by simpa using h9
 have e10 : (n.kind == 10) = false := by simpa using h10
 have e11 : (n.kind == 11) = false := by simp; omega
 have e12 : (n.kind == 12) = false := by simp; omega
 by_cases h13 : n.kind = 13
 · have hbr := hbr h13
   have o1 : decide (n.kind ≥ 1) = true := by simp; omega
   have o2 : decide (n.kind ≤ 14) = true := by simp; omega
   have e13 : (n.kind == 13) = true := by simpa using h13
   have hV13 : V = (((decide ((n.branches.length : Int) > 0) && decide ((n.branches.length : Int) ≤ 10)) && branchesM s.nodes [] n.branches) && bB) := by
    have x1 : decide ((n.branches.length : Int) > 0) = decide (1 ≤ n.branches.length) := decide_eq_decide.2 (by omega)
    have x2 : decide ((n.branches.length : Int) ≤ 10) = decide (n.branches.length ≤ 10) := decide_eq_decide.2 (by omega)
    rw [hV, if_neg h9, if_neg h10, if_neg (by omega), if_pos h13, h13, unionM, x1, x2]
    simp [Bool.and_comm, Bool.and_assoc]
   clear hV
   have pk : (partN n).kind = n.kind := rfl
   have pf : (partN n).fields = [] := by simp [partN, h13]
   have ps : (partN n).symbols = [] := by simp [partN, h13]
   have ph : (partN n).has = false := by simp [partN, h13]
   have pd : (partN n).dflt = [] := by simp [partN, h13]
   have pz : (partN n).size = 0 := by simp [partN, h13]
   have pi : (partN n).items = 0 := by simp [partN, h13]
   have pb : (partN n).branches = n.branches := by simp [partN, h13]
   obtain ⟨L, hL⟩ : ∃ L, L = (decide ((n.branches.length : Int) > 0) && decide ((n.branches.length : Int) ≤ 10)) := ⟨_, rfl⟩
   rw [← hL] at hV13
   refine walkBF (And.intro @ncells_mk (And.intro e9 (And.intro e10 (And.intro e11 (And.intro e12 e13))))) ?_
   refine VC.loop (ι := {i : Nat // i ≤ n.branches.length}) (fun q => [(2, .ref 0 1 0 0), (3, .ref 8 1 0 0), (5, .ref 48 1 0 0), (7, .c (.v (.bool (L && branchesM s.nodes [] (n.branches.take q.1))))), (13, .c (.v (.int .i64 (q.1 : Int))))])
    (fun q => [(0, ⟨false, 24, 2, [s.cells.map .c]⟩), (8, ⟨false, 33, 10, [n.cells.map .c]⟩), (48, ⟨false, 33, 10, [(partN n).cells.map .c]⟩)]) 10000 (fun q => n.branches.length - q.1) ⟨0, Nat.zero_le _⟩ ?_ ?_
   · refine weakXF (And.intro @ncells_mk (And.intro @scells_mk (And.intro o1 (And.intro o2 (And.intro hL (And.intro pk (And.intro pf (And.intro ps (And.intro ph (And.intro pd (And.intro pz (And.intro pi pb)))))))))))) ?_
     simp [branchesM]
   rintro ⟨i, hi⟩
   simp only []
   refine walkGF (And.intro @ncells_mk @scells_mk) ?_
   refine VC.cond (by rfl) (by trivial) (fun hc => ?_) (fun hc => ?_)
   · have hlt : i < n.branches.length := by simp at hc; omega
     obtain ⟨x, hx⟩ : ∃ x, n.branches[i]? = some x := ⟨n.branches[i], List.getElem?_eq_getElem hlt⟩
     obtain ⟨y0, y1⟩ := hbr x (List.mem_of_getElem? hx)
     obtain ⟨p, rfl⟩ : ∃ p : Nat, x = (p : Int) := ⟨x.toNat, by omega⟩
     obtain ⟨m, hm⟩ : ∃ m, s.nodes[p]? = some m := ⟨s.nodes[p]'(by omega), List.getElem?_eq_getElem (by omega)⟩
     have hmp : (s.nodes.map NT.cells)[p]? = some m.cells := by rw [List.getElem?_map, hm]; rfl
     have hw : IntKind.i64.wrap ((i : Int) + 1) = (i : Int) + 1 := wrap64_id (by omega) (by omega)
     have hxp : (n.branches.map iPV)[i]? = some (iPV (p : Int)) := by rw [List.getElem?_map, hx]; rfl
     have hnx : branchesM s.nodes [] (n.branches.take (i + 1)) = (branchesM s.nodes [] (n.branches.take i) && branchM s.nodes (n.branches.take i) (p : Int)) := by
      rw [List.take_add_one, hx, Option.toList_some, branchesM_snoc, List.nil_append]
     rw [branchM, Int.toNat_natCast, kindAt_of hm] at hnx
     obtain ⟨b0, hb0⟩ : ∃ b, b = branchesM s.nodes [] (n.branches.take i) := ⟨_, rfl⟩
     rw [← hb0] at hnx ⊢
     clear hb0
     replace hnx := Lib.hid hnx
     have hNm := rnamed10_told m.kind
     obtain ⟨bn, hbn⟩ : ∃ b, b = namedK m.kind := ⟨_, rfl⟩
     rw [← hbn] at hNm
     refine walkGF (And.intro @ncells_mk (And.intro @scells_mk (And.intro hxp (And.intro @iPV_eq hmp)))) ?_
     refine VC.loop (ι := {k : Nat // k ≤ i}) (fun q => [(2, .ref 0 1 0 0), (3, .ref 8 1 0 0), (5, .ref 48 1 0 0), (7, .c (.v (.bool (((L && b0) && (m.kind != 13)) && !(n.branches.take q.1).any fun z => z == (p : Int) || (!bn && kindAt s.nodes z.toNat == m.kind))))), (13, .c (.v (.int .i64 (i : Int)))), (14, .ref 10112 1 0 0), (15, .c (.v (.int .i64 (q.1 : Int))))])
      (fun q => [(0, ⟨false, 24, 2, [s.cells.map .c]⟩), (8, ⟨false, 33, 10, [n.cells.map .c]⟩), (48, ⟨false, 33, 10, [(partN n).cells.map .c]⟩), (10112, ⟨false, 33, 10, [m.cells.map .c]⟩)]) 20000 (fun q => i - q.1) ⟨0, Nat.zero_le _⟩ ?_ ?_
     · refine weakXF (And.intro @ncells_mk @scells_mk) ?_
       simp
     rintro ⟨k, hk⟩
     simp only []
     refine walkGF (And.intro @ncells_mk @scells_mk) ?_
     refine VC.cond (by rfl) (by trivial) (fun hc2 => ?_) (fun hc2 => ?_)
     · have hki : k < i := by simp at hc2; omega
       obtain ⟨y, hy⟩ : ∃ y, n.branches[k]? = some y := ⟨n.branches[k]'(by omega), List.getElem?_eq_getElem (by omega)⟩
       obtain ⟨z0, z1⟩ := hbr y (List.mem_of_getElem? hy)
       obtain ⟨r, rfl⟩ : ∃ r : Nat, y = (r : Int) := ⟨y.toNat, by omega⟩
       obtain ⟨w, hwn⟩ : ∃ w, s.nodes[r]? = some w := ⟨s.nodes[r]'(by omega), List.getElem?_eq_getElem (by omega)⟩
       have hwp : (s.nodes.map NT.cells)[r]? = some w.cells := by rw [List.getElem?_map, hwn]; rfl
       have hwk : IntKind.i64.wrap ((k : Int) + 1) = (k : Int) + 1 := wrap64_id (by omega) (by omega)
       have hyp : (n.branches.map iPV)[k]? = some (iPV (r : Int)) := by rw [List.getElem?_map, hy]; rfl
       have hnk : (!(n.branches.take (k + 1)).any fun z => z == (p : Int) || (!bn && kindAt s.nodes z.toNat == m.kind)) = ((!(n.branches.take k).any fun z => z == (p : Int) || (!bn && kindAt s.nodes z.toNat == m.kind)) && (((p : Int) != (r : Int)) && ((m.kind != w.kind) || bn))) := by
        rw [List.take_add_one, hy, List.any_append]
        simp only [Option.toList_some, List.any_cons, List.any_nil, Bool.or_false, Int.toNat_natCast, kindAt_of hwn, Bool.not_or, Bool.not_and, Bool.not_not]
        congr 1
        congr 1
        · rw [bne_comm]; rfl
        · rw [Bool.or_comm, bne_comm]; rfl
       obtain ⟨b1, hb1⟩ : ∃ b, b = !(n.branches.take k).any fun z => z == (p : Int) || (!bn && kindAt s.nodes z.toNat == m.kind) := ⟨_, rfl⟩
       rw [← hb1] at hnk ⊢
       clear hb1
       replace hnk := Lib.hid hnk
       refine walkGF (And.intro @ncells_mk (And.intro @scells_mk (And.intro hxp (And.intro hyp (And.intro @iPV_eq (And.intro hmp hwp)))))) ?_
       refine walkD (hNm) ?_
       refine walkGF (hwk) ?_
       refine .next ⟨k + 1, by omega⟩ ?_ (by simp only []; omega)
       simp only [ncells_mk, scells_mk, hnk.out, Bool.and_assoc, Weak, eq_self, used_is, sc_any, sc_c, sc_pp, sc_ref, sc_row, sc_agg, sc_fn, ScL, some_imp, List.forall_mem_map, go_sem, Int.reduceBEq, Int.reduceLE, Int.reduceLT, Int.reduceNeg, Nat.reduceAdd, Nat.reduceEqDiff, Nat.reduceLT, Nat.reduceLeDiff, Nat.reduceMul, Nat.reduceSub, reduceCtorEq, ↓reduceIte]
       exact cI (by omega)
     · have hke : k = i := by simp at hc2; omega
       subst hke
       refine walkGF (hw) ?_
       refine .next ⟨k + 1, by omega⟩ ?_ (by simp only []; omega)
       simp only [ncells_mk, scells_mk, hnx.out, hbn, Bool.and_assoc, Weak, eq_self, used_is, sc_any, sc_c, sc_pp, sc_ref, sc_row, sc_agg, sc_fn, ScL, some_imp, List.forall_mem_map, go_sem, Int.reduceBEq, Int.reduceLE, Int.reduceLT, Int.reduceNeg, Nat.reduceAdd, Nat.reduceEqDiff, Nat.reduceLT, Nat.reduceLeDiff, Nat.reduceMul, Nat.reduceSub, reduceCtorEq, ↓reduceIte]
       exact cI (by omega)
   · have hie : i = n.branches.length := by simp at hc; omega
     rw [show n.branches.take i = n.branches by rw [hie, List.take_length]]
     refine walkG ?_
     refine .normal ⟨_, hV13⟩ ?_
     exact weakZF (And.intro @ncells_mk @scells_mk)
 have e13 : (n.kind == 13) = false := by simpa using h13
 by_cases h14 : n.kind = 14
 · have o1 : decide (n.kind ≥ 1) = true := by simp; omega
   have o2 : decide (n.kind ≤ 14) = true := by simp; omega
   have hV14 : V = ((decide (n.size ≥ 0) && decide (n.size ≤ 1000)) && bB) := by
    rw [hV, if_neg h9, if_neg h10, if_pos h14, h14]
    simp [Bool.and_comm]
   clear hV
   have pk : (partN n).kind = n.kind := rfl
   have pf : (partN n).fields = [] := by simp [partN, h14]
   have ps : (partN n).symbols = [] := by simp [partN, h14]
   have ph : (partN n).has = false := by simp [partN, h14]
   have pd : (partN n).dflt = [] := by simp [partN, h14]
   have pz : (partN n).size = n.size := by simp [partN, h14]
   have pi : (partN n).items = 0 := by simp [partN, h14]
   have pb : (partN n).branches = [] := by simp [partN, h14]
   have e14 : (n.kind == 14) = true := by simpa using h14
   refine walkBF (And.intro @ncells_mk (And.intro e9 (And.intro e10 (And.intro e11 (And.intro e12 (And.intro e13 e14)))))) ?_
   refine .normal ⟨_, hV14⟩ ?_
   exact weakZF (And.intro @ncells_mk (And.intro @scells_mk (And.intro o1 (And.intro o2 (And.intro pk (And.intro pf (And.intro ps (And.intro ph (And.intro pd (And.intro pz (And.intro pi pb)))))))))))
 · have hV0 : V = ((decide (n.kind ≥ 1) && decide (n.kind ≤ 14)) && bB) := by
    rw [hV, if_neg h9, if_neg h10, if_neg h14, if_neg h13]
    simp [Bool.and_assoc]
   clear hV
   have pk : (partN n).kind = n.kind := rfl
   have pf : (partN n).fields = [] := by simp [partN, h9, h10, h13, h14, h1112]
   have ps : (partN n).symbols = [] := by simp [partN, h9, h10, h13, h14, h1112]
   have ph : (partN n).has = false := by simp [partN, h9, h10, h13, h14, h1112]
   have pd : (partN n).dflt = [] := by simp [partN, h9, h10, h13, h14, h1112]
   have pz : (partN n).size = 0 := by simp [partN, h9, h10, h13, h14, h1112]
   have pi : (partN n).items = 0 := by simp [partN, h9, h10, h13, h14, h1112]
   have pb : (partN n).branches = [] := by simp [partN, h9, h10, h13, h14, h1112]
   have e14 : (n.kind == 14) = false := by simpa using h14
   refine walkBF (And.intro @ncells_mk (And.intro e9 (And.intro e10 (And.intro e11 (And.intro e12 (And.intro e13 e14)))))) ?_
   refine .normal ⟨_, hV0⟩ ?_
   exact weakZF (And.intro @ncells_mk (And.intro @scells_mk (And.intro pk (And.intro pf (And.intro ps (And.intro ph (And.intro pd (And.intro pz (And.intro pi pb)))))))))

theorem take_step {ns : List NT} {l : List Int} {i : Nat} (h : i < ns.length) : (wstep ns l).take (i + 1) = (wstep ns l).take i ++ [foldW (wAt l) (fieldsAt ns i) 1] := by
 rw [List.take_add_one, wstep_at h]
 rfl
theorem fieldsAt_of {ns : List NT} {i : Nat} {n : NT} (h : ns[i]? = some n) : fieldsAt ns i = if n.kind = 9 then n.fields else [] := by rw [fieldsAt, h]
noncomputable def difT (a b : List Int) (i : Nat) : Bool := @decide (a.take i ≠ b.take i) (Classical.propDecidable _)
theorem difT_zero (a b : List Int) : difT a b 0 = false := by simp [difT]
theorem difT_next {a b : List Int} {i : Nat} {x y : Int} (hx : a[i]? = some x) (hy : b[i]? = some y) : difT a b (i + 1) = (difT a b i || (x != y)) := by
 have hla := (List.getElem?_eq_some_iff.1 hx).1
 have hlb := (List.getElem?_eq_some_iff.1 hy).1
 rw [Bool.eq_iff_iff]
 simp only [difT, decide_eq_true_eq, Bool.or_eq_true, bne_iff_ne, ne_eq]
 rw [List.take_add_one, List.take_add_one, hx, hy, Option.toList_some, Option.toList_some]
 constructor
 · intro h
   by_cases h1 : a.take i = b.take i
   · by_cases h2 : x = y
     · exact absurd (by rw [h1, h2]) h
     · exact .inr h2
   · exact .inl h1
 · rintro h e
   have := List.append_inj e (by simp; omega)
   rcases h with h | h
   · exact h this.1
   · exact h (List.cons.inj this.2).1
theorem difT_end {a b : List Int} {i : Nat} (ha : a.length = i) (hb : b.length = i) : difT a b i = false ↔ a = b := by
 simp only [difT, decide_eq_false_iff_not, ne_eq, Classical.not_not]
 rw [List.take_of_length_le (by omega), List.take_of_length_le (by omega)]
theorem rweights_told (s : ST) (hl : s.nodes.length ≤ 1000000) (hs : ∀ n ∈ s.nodes, n.sm 1000000) (hr : ∀ p, ∀ x ∈ fieldsAt s.nodes p, 0 ≤ x.type ∧ x.type < (s.nodes.length : Int)) (l : List Int) (hG : ∀ l', WOk s.nodes l' → wstep s.nodes l' = l' → l' = l) :
  Told Tryz.prog 89 [s.av] (.c (.sl 1 (l.map iPV))) := by
 rw [ST.av_eq, scells_mk]
 refine VC.toldP ent_89 Tryz.func89 rfl Tryz.ntmps89 fun hb => ?_
 clear hb
 refine walkG ?_
 refine VC.nil 3 3 1 (by rfl) (by trivial) (by rfl) ?_
 refine VC.loop (ι := {i : Nat // i ≤ s.nodes.length}) (fun q => [(1, .ref 0 1 0 0), (3, .row 32 q.1), (4, .c (.v (.int .i64 (q.1 : Int))))]) (fun q => [(0, ⟨false, 24, 2, [s.cells.map .c]⟩), (32, ⟨true, 3, 1, rA iPV (List.replicate q.1 1)⟩)]) 800 (fun q => s.nodes.length - q.1)
  ⟨0, Nat.zero_le _⟩ ?_ ?_
 · simp only [rA_len, rA_sc, rA_nil, scells_mk, Weak, eq_self, used_is, sc_any, sc_c, sc_pp, sc_ref, sc_row, sc_agg, sc_fn, ScL, some_imp, List.forall_mem_map, go_sem, Int.reduceBEq, Int.reduceLE, Int.reduceLT, Int.reduceNeg, Nat.reduceAdd, Nat.reduceEqDiff, Nat.reduceLT, Nat.reduceLeDiff, Nat.reduceMul, Nat.reduceSub, reduceCtorEq, ↓reduceIte]
   try simp [rA_nil]
 rintro ⟨i, hi⟩
 simp only []
 refine walkGF (@scells_mk) ?_
 refine VC.cond (by rfl) (by trivial) (fun hc => ?_) (fun hc => ?_)
 · have hlt : i < s.nodes.length := by simp at hc; omega
   have hw : IntKind.i64.wrap ((i : Int) + 1) = (i : Int) + 1 := wrap64_id (by omega) (by omega)
   have hln : (rA iPV (List.replicate i 1)).length = i := by rw [rA_len]; simp
   have hap : rA iPV (List.replicate i 1) ++ [[.c (.v (.int .i64 1))]] = rA iPV (List.replicate (i + 1) 1) := by
    rw [List.replicate_succ']
    exact rA_one iPV _ 1
   have hl2 : (rA iPV (List.replicate (i + 1) 1)).length = i + 1 := by rw [rA_len]; simp
   refine walkGF (And.intro hln (And.intro hap hw)) ?_
   refine .next ⟨i + 1, by omega⟩ ?_ (by simp only []; omega)
   refine weakXF (And.intro hl2 (And.intro @rA_sc @scells_mk)) ?_
   exact ⟨cI (by omega), by rw [rA_len]; simp⟩
 have hie : i = s.nodes.length := by simp at hc; omega
 subst hie
 have hln : (rA iPV (List.replicate s.nodes.length 1)).length = s.nodes.length := by rw [rA_len]; simp
 refine walkG ?_
 refine VC.frz [32] [(1, .ref 0 1 0 0), (3, .c (.sl 1 ((List.replicate s.nodes.length 1).map iPV))), (5, .c (.v (.bool true)))] [(0, ⟨false, 24, 2, [s.cells.map .c]⟩)] 1600 ?_ ?_
 · simp only [rA_sc, rA_len, scells_mk, WeakF, used_is, sc_any, sc_c, sc_pp, sc_ref, sc_row, sc_agg, sc_fn, ScL, some_imp, List.forall_mem_map, go_sem, Int.reduceBEq, Int.reduceLE, Int.reduceLT, Int.reduceNeg, Nat.reduceAdd, Nat.reduceEqDiff, Nat.reduceLT, Nat.reduceLeDiff, Nat.reduceMul, Nat.reduceSub, reduceCtorEq, ↓reduceIte]
   exact ⟨⟨.same _, .row (B := ⟨true, 3, 1, rA iPV (List.replicate s.nodes.length 1)⟩) (es := (List.replicate s.nodes.length 1).map iPV) (by simp) rfl rfl hln (rA_pv _ _), .same _⟩, .same _⟩
 refine VC.loop (ι := {x : List Int × Bool // WOk s.nodes x.1 ∧ (x.2 = false → wstep s.nodes x.1 = x.1)}) (fun q => [(1, .ref 0 1 0 0), (3, .c (.sl 1 (q.1.1.map iPV))), (5, .c (.v (.bool q.1.2)))]) (fun q => [(0, ⟨false, 24, 2, [s.cells.map .c]⟩)]) 3200 (fun q => wlack q.1.1 * 2 + q.1.2.toNat)
  ⟨(List.replicate s.nodes.length 1, true), wok_one s.nodes, by simp⟩ ?_ ?_
 · exact weakZF (@scells_mk)
 rintro ⟨⟨w, more⟩, hwk, hmore⟩
 simp only [] at hwk hmore ⊢
 refine walkG ?_
 refine VC.cond (by rfl) (by trivial) (fun hm => ?_) (fun hm => ?_)
 rotate_left
 · obtain rfl := hG w hwk (hmore hm)
   refine walkG ?_
   refine retX Tryz.results89 ?_
   exact .c _
 subst hm
 obtain ⟨hwl, hwr, hwm⟩ := hwk
 have hwl2 : (w.map iPV).length = s.nodes.length := by simp [hwl]
 refine walkG ?_
 refine VC.nil 6 3 1 (by rfl) (by trivial) (by rfl) ?_
 refine VC.loop (ι := {i : Nat // i ≤ s.nodes.length}) (fun q => [(1, .ref 0 1 0 0), (3, .c (.sl 1 (w.map iPV))), (5, .c (.v (.bool (difT (wstep s.nodes w) w q.1)))), (6, .row 3232 q.1), (7, .c (.v (.int .i64 (q.1 : Int))))]) (fun q => [(0, ⟨false, 24, 2, [s.cells.map .c]⟩), (3232, ⟨true, 3, 1, rA iPV ((wstep s.nodes w).take q.1)⟩)]) 4800 (fun q => s.nodes.length - q.1)
  ⟨0, Nat.zero_le _⟩ ?_ ?_
 · exact weakZF (And.intro @rA_len (And.intro @rA_sc (And.intro @rA_nil (And.intro @scells_mk @difT_zero))))
 rintro ⟨i, hi⟩
 simp only []
 refine walkGF (@scells_mk) ?_
 refine VC.cond (by rfl) (by trivial) (fun hc => ?_) (fun hc => ?_)
 · have hlt : i < s.nodes.length := by simp at hc; omega
   obtain ⟨n, hn⟩ : ∃ n, s.nodes[i]? = some n := ⟨s.nodes[i], List.getElem?_eq_getElem hlt⟩
   have hnp : (s.nodes.map NT.cells)[i]? = some n.cells := by rw [List.getElem?_map, hn]; rfl
   have hw : IntKind.i64.wrap ((i : Int) + 1) = (i : Int) + 1 := wrap64_id (by omega) (by omega)
   have hfl := (hs n (List.mem_of_getElem? hn)).2.2.2.2.2.1
   obtain ⟨v, hv⟩ : ∃ v, w[i]? = some v := ⟨w[i]'(by omega), List.getElem?_eq_getElem (by omega)⟩
   have hvp : (w.map iPV)[i]? = some (iPV v) := by rw [List.getElem?_map, hv]; rfl
   have hwa := fun q => wAt_range hwr q
   have hsl : (wstep s.nodes w).length = s.nodes.length := by simp [wstep]
   have hln2 : (rA iPV ((wstep s.nodes w).take i)).length = i := by rw [rA_len]; simp; omega
   have hl2 : (rA iPV ((wstep s.nodes w).take (i + 1))).length = i + 1 := by rw [rA_len]; simp; omega
   have hst := take_step (l := w) hlt
   have hat := wstep_at (l := w) hlt
   have hdn := difT_next hat hv
   obtain ⟨T, hT⟩ : ∃ T, T = foldW (wAt w) (fieldsAt s.nodes i) 1 := ⟨_, rfl⟩
   rw [← hT] at hst hat hdn
   have hap : rA iPV ((wstep s.nodes w).take i) ++ [[.c (.v (.int .i64 T))]] = rA iPV ((wstep s.nodes w).take (i + 1)) := by
    rw [hst]
    exact rA_one iPV _ T
   have hfa := fieldsAt_of hn
   replace hdn := Lib.hid hdn
   have hlw : ∀ (F : List FT) (a : Int), a ≤ 1001 → foldW (wAt w) F a ≤ 1001 := fun F a h => foldW_le F a h
   have hgw : ∀ (F : List FT) (a : Int), a ≤ 1001 → a ≤ foldW (wAt w) F a := fun F a h => foldW_ge (fun q => (hwa q).1) F a h
   refine walkG ?_
   refine VC.loop (ι := {x : Nat × Int // x.1 ≤ n.fields.length ∧ 1 ≤ x.2 ∧ x.2 ≤ 2001 ∧ foldW (wAt w) ((if n.kind = 9 then n.fields else []).drop x.1) (min x.2 1001) = T}) (fun q => [(1, .ref 0 1 0 0), (3, .c (.sl 1 (w.map iPV))), (5, .c (.v (.bool (difT (wstep s.nodes w) w i)))), (6, .row 3232 i), (7, .c (.v (.int .i64 (i : Int)))), (8, .c (.v (.int .i64 q.1.2))), (9, .c (.v (.int .i64 (q.1.1 : Int))))])
    (fun q => [(0, ⟨false, 24, 2, [s.cells.map .c]⟩), (3232, ⟨true, 3, 1, rA iPV ((wstep s.nodes w).take i)⟩)]) 6400 (fun q => n.fields.length - q.1.1) ⟨(0, 1), Nat.zero_le _, by simp only []; omega, by simp only []; omega, by rw [hT, hfa]; rfl⟩ ?_ ?_
   · refine weakXF (And.intro hln2 (And.intro @rA_sc @scells_mk)) ?_
     exact Nat.le_refl _
   rintro ⟨⟨k, m⟩, hk, hm1, hm2, hfo⟩
   simp only [] at hk hm1 hm2 hfo ⊢
   refine walkGF (And.intro @scells_mk (And.intro hnp @ncells_mk)) ?_
   refine VC.cond (by rfl) (by trivial) (fun hc2 => ?_) (fun hc2 => ?_)
   · obtain ⟨hkl, h9, hmk⟩ : k < n.fields.length ∧ n.kind = 9 ∧ m ≤ 1000 := by
      simp at hc2
      omega
     obtain ⟨f, hf⟩ : ∃ f, n.fields[k]? = some f := ⟨n.fields[k], List.getElem?_eq_getElem hkl⟩
     have hfp : (n.fields.map FT.cells)[k]? = some f.cells := by rw [List.getElem?_map, hf]; rfl
     have hwk : IntKind.i64.wrap ((k : Int) + 1) = (k : Int) + 1 := wrap64_id (by omega) (by omega)
     obtain ⟨t0, t1⟩ := hr i f (by rw [hfa, if_pos h9]; exact List.mem_of_getElem? hf)
     obtain ⟨q, hq⟩ : ∃ q : Nat, f.type = (q : Int) := ⟨f.type.toNat, by omega⟩
     obtain ⟨u, hu⟩ : ∃ u, w[q]? = some u := ⟨w[q]'(by omega), List.getElem?_eq_getElem (by omega)⟩
     have hup : (w.map iPV)[q]? = some (iPV u) := by rw [List.getElem?_map, hu]; rfl
     have hur := hwr u (List.mem_of_getElem? hu)
     have hwu : IntKind.i64.wrap (m + u) = m + u := wrap64_id (by omega) (by omega)
     rw [if_pos h9, drop_at' hf, foldW, hq, Int.toNat_natCast, wAt_of hu] at hfo
     refine walkGF (And.intro @scells_mk (And.intro hnp (And.intro @ncells_mk (And.intro hfp (And.intro @fcells_mk (And.intro hq (And.intro hup (And.intro @iPV_eq (And.intro hwl2 (And.intro hwl (And.intro hwu hwk))))))))))) ?_
     refine .next ⟨(k + 1, m + u), by simp only []; omega, by simp only []; omega, by simp only []; omega, by
      simp only []
      rw [if_pos h9, ← hfo]
      congr 1
      omega⟩ ?_ (by simp only []; omega)
     refine weakXF (And.intro hln2 (And.intro @rA_sc @scells_mk)) ?_
     exact ⟨cI (by omega), Nat.le_refl _⟩
   · have hend : min m 1001 = T := by
      rw [← hfo]
      by_cases h9 : n.kind = 9
      · rw [if_pos h9]
        by_cases hkl : k < n.fields.length
        · have hmb : 1000 < m := by
           simp [h9] at hc2
           omega
          have a := hlw (n.fields.drop k) (min m 1001) (by omega)
          have b := hgw (n.fields.drop k) (min m 1001) (by omega)
          omega
        · rw [List.drop_of_length_le (by omega), foldW]
      · rw [if_neg h9, List.drop_nil, foldW]
     refine walkG ?_
     refine VC.cond (by rfl) (by trivial) (fun hc3 => ?_) (fun hc3 => ?_)
     · have hmT : T = 1001 := by
        rw [← hend]
        simp at hc3
        omega
       subst hmT
       refine walkGF (And.intro @scells_mk (And.intro hvp (And.intro @iPV_eq (And.intro hwl2 (And.intro hwl (And.intro hln2 (And.intro hap hw))))))) ?_
       refine .next ⟨i + 1, by omega⟩ ?_ (by simp only []; omega)
       refine weakXF (And.intro hl2 (And.intro @rA_sc (And.intro @scells_mk hdn.out))) ?_
       exact ⟨cI (by omega), Nat.le_refl _⟩
     · have hmT : m = T := by
        rw [← hend]
        simp at hc3
        omega
       subst hmT
       refine walkGF (And.intro @scells_mk (And.intro hvp (And.intro @iPV_eq (And.intro hwl2 (And.intro hwl (And.intro hln2 (And.intro hap hw))))))) ?_
       refine .next ⟨i + 1, by omega⟩ ?_ (by simp only []; omega)
       refine weakXF (And.intro hl2 (And.intro @rA_sc (And.intro @scells_mk hdn.out))) ?_
       exact ⟨cI (by omega), Nat.le_refl _⟩
 have hie : i = s.nodes.length := by simp at hc; omega
 have hsl : (wstep s.nodes w).length = s.nodes.length := by simp [wstep]
 subst hie
 rw [show (wstep s.nodes w).take s.nodes.length = wstep s.nodes w from List.take_of_length_le (by omega)]
 have hln3 : (rA iPV (wstep s.nodes w)).length = s.nodes.length := by rw [rA_len, hsl]
 obtain ⟨d, hd⟩ : ∃ d, d = difT (wstep s.nodes w) w s.nodes.length := ⟨_, rfl⟩
 rw [← hd]
 have hde := difT_end (a := wstep s.nodes w) (b := w) hsl hwl
 rw [← hd] at hde
 have hlack := fun h : wstep s.nodes w ≠ w => wstep_lack ⟨hwl, hwr, hwm⟩ h
 have hok := wok_step ⟨hwl, hwr, hwm⟩
 refine VC.frz [3232] [(1, .ref 0 1 0 0), (6, .c (.sl 1 ((wstep s.nodes w).map iPV))), (5, .c (.v (.bool d)))] [(0, ⟨false, 24, 2, [s.cells.map .c]⟩)] 12000 ?_ ?_
 · simp only [rA_sc, rA_len, scells_mk, WeakF, used_is, sc_any, sc_c, sc_pp, sc_ref, sc_row, sc_agg, sc_fn, ScL, some_imp, List.forall_mem_map, go_sem, Int.reduceBEq, Int.reduceLE, Int.reduceLT, Int.reduceNeg, Nat.reduceAdd, Nat.reduceEqDiff, Nat.reduceLT, Nat.reduceLeDiff, Nat.reduceMul, Nat.reduceSub, reduceCtorEq, ↓reduceIte]
   exact ⟨⟨.same _, .row (B := ⟨true, 3, 1, rA iPV (wstep s.nodes w)⟩) (es := (wstep s.nodes w).map iPV) (by simp) rfl rfl hln3 (rA_pv _ _), .same _⟩, .same _⟩
 refine walkG ?_
 refine .next ⟨(wstep s.nodes w, d), hok, fun h => ?_⟩ ?_ ?_
 · have e := hde.1 h
   simp only []
   rw [e]
   exact e
 · exact weakZF (@scells_mk)
 · simp only []
   cases d with
   | false =>
     have e := hde.1 rfl
     rw [e]
     simp
   | true =>
     have := hlack fun e => by
      have := hde.2 e
      simp at this
     simp
     omega

theorem gList {ns : List NT} {G : Nat → Int} {l' : List Int} (hG : IsG ns G) (hr : ∀ p, ∀ x ∈ fieldsAt ns p, x.type.toNat < ns.length) (h : WOk ns l') (he : wstep ns l' = l') : l' = (List.range ns.length).map G := by
 apply List.ext_getElem?
 intro i
 by_cases hi : i < ns.length
 · rw [wok_G hG hr h he i hi, List.getElem?_map, List.getElem?_range hi]
   rfl
 · rw [List.getElem?_eq_none (by have := h.1; omega), List.getElem?_eq_none (by simp; omega)]
theorem rRight_told (s : ST) (hsm : s.sm 1000000) (hdp : ∀ n ∈ s.nodes, ∀ f ∈ n.fields, tdeep f.dflt ≤ 1000) : Told Tryz.prog 52 [s.av] (.c (.v (.bool (rightM s)))) := by
 obtain ⟨V, hV⟩ : ∃ V, V = rightM s := ⟨_, rfl⟩
 rw [← hV]
 obtain ⟨hl, hs⟩ := hsm
 have hO := rordered_told s hl hs
 simp only [ST.av_eq, scells_mk, List.map_cons, List.map_nil] at hO
 rw [ST.av_eq, scells_mk]
 cases ho : orderedM s with
 | false =>
   rw [ho] at hO
   have hf : V = false := by
    cases h : V with
    | false => rfl
    | true =>
      rw [hV] at h
      rw [right_ordered h] at ho
      exact absurd ho (by simp)
   subst hf
   refine VC.toldP ent_52 Tryz.func52 rfl Tryz.ntmps52 fun hb => ?_
   clear hb
   refine walkG ?_
   refine walkC (hO) ?_
   refine walkB ?_
   refine retX Tryz.results52 ?_
   exact .c _
 | true =>
 rw [ho] at hO
 have hki := ordered_kids ho
 obtain ⟨G, hG⟩ := exG s.nodes (range_at ho)
 have hE := rightM_eq hG (range_at ho)
 have hWt := rweights_told s hl hs (fun p x hx => by
  unfold fieldsAt at hx
  split at hx
  · rename_i n hn
    split at hx
    · rename_i h9
      exact range_kinds ho n (List.mem_of_getElem? hn) h9 x hx
    · simp at hx
  · simp at hx) _ fun l' h he => gList hG (range_at ho) h he
 simp only [ST.av_eq, scells_mk, List.map_cons, List.map_nil] at hWt
 have hGl : (((List.range s.nodes.length).map G).map iPV).length = s.nodes.length := by simp
 have hGx : ∀ i, i < s.nodes.length → (((List.range s.nodes.length).map G).map iPV)[i]? = some (iPV (G i)) := fun i hi => by rw [List.getElem?_map, List.getElem?_map, List.getElem?_range hi]; rfl
 generalize ((List.range s.nodes.length).map G).map iPV = W at hWt hGl hGx
 have hnm : ∀ i, (namesM (s.nodes.take i)).length ≤ 1000000 := fun i => by
  have := names_len (s.nodes.take i)
  rw [List.length_take] at this
  omega
 refine VC.toldP ent_52 Tryz.func52 rfl Tryz.ntmps52 fun hb => ?_
 clear hb
 refine walkG ?_
 refine walkC (hO) ?_
 refine walkB ?_
 refine walkC (hWt) ?_
 refine walkG ?_
 refine VC.nil 4 9 1 (by rfl) (by trivial) (by rfl) ?_
 refine VC.loop (ι := {i : Nat // i ≤ s.nodes.length ∧ ∀ (j : Nat) (n : NT), j < i → s.nodes[j]? = some n → nodeM s.nodes n = true ∧ G j ≤ 1000})
  (fun q => [(1, .ref 0 1 0 0), (3, .c (.sl 1 W)), (4, .row 80 (namesM (s.nodes.take q.1)).length), (5, .c (.v (.int .i64 (q.1 : Int))))])
  (fun q => [(0, ⟨false, 24, 2, [s.cells.map .c]⟩), (80, ⟨true, 9, 1, rA sPV (namesM (s.nodes.take q.1))⟩)]) 800 (fun q => s.nodes.length - q.1)
  ⟨0, Nat.zero_le _, fun j n h => by omega⟩ ?_ ?_
 · refine weakXF (And.intro @rA_len (And.intro @rA_sc (And.intro @rA_nil @scells_mk))) ?_
   simp [namesM, rA_nil]
 rintro ⟨i, hi, ht⟩
 simp only []
 refine walkGF (@scells_mk) ?_
 refine VC.cond (by rfl) (by trivial) (fun hc => ?_) (fun hc => ?_)
 · have hlt : i < s.nodes.length := by simp at hc; omega
   obtain ⟨n, hn⟩ : ∃ n, s.nodes[i]? = some n := ⟨s.nodes[i], List.getElem?_eq_getElem hlt⟩
   have hnp : (s.nodes.map NT.cells)[i]? = some n.cells := by rw [List.getElem?_map, hn]; rfl
   have hw : IntKind.i64.wrap ((i : Int) + 1) = (i : Int) + 1 := wrap64_id (by omega) (by omega)
   have hmem := List.mem_of_getElem? hn
   have hNd := rnode_told s n (hs n hmem) (fun h13 k hk => hki n hmem k (by rw [kidsN, if_neg (by omega), if_neg (by omega), if_pos h13]; exact hk)) (hdp n hmem)
   have hNm := rnamed10_told n.kind
   simp only [ST.av_eq, scells_mk, NT.av_eq, ncells_mk, List.map_cons, List.map_nil] at hNd
   have hWx := hGx i hlt
   have hnl : (rA sPV (namesM (s.nodes.take i))).length = (namesM (s.nodes.take i)).length := rA_len _ _
   have hnt := namesM_take hn
   have hni := hnm i
   cases hnn : nodeM s.nodes n with
   | false =>
     have hf : V = false := by
      cases h : V with
      | false => rfl
      | true =>
        rw [hV, hE] at h
        rw [h.2.1 n hmem] at hnn
        exact absurd hnn (by simp)
     subst hf
     rw [hnn] at hNd
     refine walkGF (And.intro @scells_mk (And.intro hnp @ncells_mk)) ?_
     refine walkC (hNd) ?_
     refine walkB ?_
     refine retX Tryz.results52 ?_
     exact .c _
   | true =>
     rw [hnn] at hNd
     refine walkGF (And.intro @scells_mk (And.intro hnp @ncells_mk)) ?_
     refine walkC (hNd) ?_
     refine walkGF (And.intro hWx (And.intro @iPV_eq hGl)) ?_
     refine VC.cond (by rfl) (by trivial) (fun hc2 => ?_) (fun hc2 => ?_)
     · have hf : V = false := by
        cases h : V with
        | false => rfl
        | true =>
          rw [hV, hE] at h
          have := h.2.2.1 i hlt
          simp at hc2
          omega
       subst hf
       refine walkG ?_
       refine retX Tryz.results52 ?_
       exact .c _
     have hg1 : G i ≤ 1000 := by simp at hc2; omega
     refine walkGF (And.intro @scells_mk (And.intro hnp @ncells_mk)) ?_
     refine walkC (hNm) ?_
     refine walkG ?_
     have hnext : ∀ (j : Nat) (m : NT), j < i + 1 → s.nodes[j]? = some m → nodeM s.nodes m = true ∧ G j ≤ 1000 := fun j m hj hm => by
      by_cases hji : j < i
      · exact ht j m hji hm
      · obtain rfl : j = i := by omega
        rw [hn] at hm
        obtain rfl := Option.some.inj hm
        exact ⟨hnn, hg1⟩
     refine VC.cond (by rfl) (by trivial) (fun hc3 => ?_) (fun hc3 => ?_)
     · rw [if_pos hc3] at hnt
       have hr : rA sPV (namesM (s.nodes.take i)) ++ [[.c (.v (.string (str n.name)))]] = rA sPV (namesM (s.nodes.take (i + 1))) := by
        rw [hnt]
        exact rA_one sPV _ n.name
       have hl2 : (namesM (s.nodes.take (i + 1))).length = (namesM (s.nodes.take i)).length + 1 := by rw [hnt]; simp
       refine walkGF (And.intro @scells_mk (And.intro hnp (And.intro @ncells_mk (And.intro hnl (And.intro hr hw))))) ?_
       refine .next ⟨i + 1, by omega, hnext⟩ ?_ (by simp only []; omega)
       refine weakXF (And.intro @rA_len (And.intro @rA_sc (And.intro @scells_mk hl2))) ?_
       exact ⟨cI (by omega), Nat.le_refl _⟩
     · rw [if_neg (by rw [hc3]; simp), List.append_nil] at hnt
       refine walkGF (hw) ?_
       refine .next ⟨i + 1, by omega, hnext⟩ ?_ (by simp only []; omega)
       refine weakXF (And.intro @rA_len (And.intro @rA_sc (And.intro @scells_mk hnt))) ?_
       exact ⟨cI (by omega), Nat.le_refl _⟩
 · have hie : i = s.nodes.length := by simp at hc; omega
   have htk : s.nodes.take i = s.nodes := by rw [hie, List.take_length]
   rw [htk]
   have hnm0 := hnm i
   rw [htk] at hnm0
   have hf : V = decide (namesM s.nodes).Nodup := by
    rw [hV, Bool.eq_iff_iff, hE, decide_eq_true_eq]
    constructor
    · exact fun h => h.2.2.2
    · refine fun h => ⟨ho, fun m hm => ?_, fun j hj => ?_, h⟩
      · obtain ⟨j, hj⟩ := List.getElem?_of_mem hm
        exact (ht j m (by have := (List.getElem?_eq_some_iff.1 hj).1; omega) hj).1
      · exact (ht j _ (by omega) (List.getElem?_eq_getElem hj)).2
   have hO2 := ronce_told (namesM s.nodes) (by omega)
   rw [← hf] at hO2
   have hrl : (rA sPV (namesM s.nodes)).length = (namesM s.nodes).length := rA_len _ _
   refine walkGF (hrl) ?_
   (refine AO.step fun K hK => ?_; simp only [go_sem, Int.reduceBEq, Int.reduceLE, Int.reduceLT, Int.reduceNeg, Nat.reduceAdd, Nat.reduceEqDiff, Nat.reduceLT, Nat.reduceLeDiff, Nat.reduceMul, Nat.reduceSub, reduceCtorEq, ↓reduceIte, hrl]; (first | refine gsel_go ?_ | skip))
   refine .inr (.inl ⟨.c (.v (.bool V)), [.c (.sl 1 ((namesM s.nodes).map sPV))], [80], ⟨by simp [AV.pureL, AV.pureB], rfl, fun k x z h5 h6 => ?_, rfl, hO2⟩, hK _ _ _ ?_⟩)
   · match k with
     | 0 =>
       obtain rfl := Option.some.inj h5
       obtain rfl := Option.some.inj h6
       exact View.row (B := ⟨true, 9, 1, rA sPV (namesM s.nodes)⟩) (es := (namesM s.nodes).map sPV) rfl rfl hrl (rA_pv _ _)
     | k + 1 => simp at h5
   clear hK K
   refine walkG ?_
   refine retX Tryz.results52 ?_
   exact .c _

theorem rleft9_told (s : ST) (B : List UInt8) (a : Nat) (nd : NT) (hnd : s.nodes[a]? = some nd) (hk : nd.kind = 9) (dep : Nat) (hd : dep < 20) (lf : Int → Int → Nat → Int → Int × Nat × Int) (hfl : nd.fields.length ≤ 1000000) (hlf : ∀ t ∈ nd.fields, LfT s B t.type (dep + 1) (lf t.type))
  (L : Int) (h0 : 1 ≤ L) (h1 : L ≤ 200000) (p : Nat) (hp : p ≤ B.length) : LfE s B (a : Int) dep L p 0 := by
 have hnp : (s.nodes.map NT.cells)[a]? = some nd.cells := by rw [List.getElem?_map, hnd]; rfl
 have ha : a < s.nodes.length := (List.getElem?_eq_some_iff.1 hnd).1
 have hw : IntKind.i64.wrap (L - 1) = L - 1 := wrap64_id (by omega) (by omega)
 have g8 : decide (nd.kind ≤ 8) = false := by simp; omega
 have g10 : (nd.kind == 10) = false := by rw [hk]; rfl
 have g14 : (nd.kind == 14) = false := by rw [hk]; rfl
 have g9 : (nd.kind == 9) = true := by rw [hk]; rfl
 have gd : ((dep : Int) == 20) = false := by simp; omega
 have gl : decide (L - 1 < 0) = false := by simp; omega
 have hwd : IntKind.i64.wrap ((dep : Int) + 1) = ((dep + 1 : Nat) : Int) := by rw [wrap64_id (by omega) (by omega)]; omega
 obtain ⟨F, hF⟩ : ∃ F, F = runF lf nd.fields (L - 1) p 0 := ⟨_, rfl⟩
 obtain ⟨z1, z2, z3, z4⟩ := runF_ok (B := B) (lf := lf) nd.fields (fun t ht L p e q1 q2 q3 => by
  obtain ⟨b1, b2, b3, _⟩ := hlf t ht L p e q1 q2 q3
  exact ⟨b1.up, b1.le, b2, b3⟩) (L - 1) p 0 (by omega) (by omega) hp
 rw [← hF] at z1 z2 z3 z4
 refine ⟨F.1, F.2.1, F.2.2, ⟨z4, z3, fun h => absurd rfl h⟩, z1, by omega, ?_⟩
 unfold LfT at hlf
 rw [ST.av_eq, scells_mk] at *
 unfold rB at *
 refine VC.toldX ent_105 [] Tryz.func105 rfl Tryz.ntmps105 fun hb hbL => ?_
 clear hb hbL
 refine walkBF (And.intro hnp (And.intro @ncells_mk (And.intro @len_ncells (And.intro hw (And.intro g8 (And.intro g10 (And.intro g14 (And.intro g9 (And.intro gd gl))))))))) ?_
 refine VC.loop (ι := {q : Nat × Int × Nat × Int // q.1 ≤ nd.fields.length ∧ -1 ≤ q.2.1 ∧ q.2.1 ≤ 200000 ∧ q.2.2.1 ≤ B.length ∧ F = runF lf (nd.fields.drop q.1) q.2.1 q.2.2.1 q.2.2.2})
  (fun q => [(2, .c (.v (.int .i64 (dep : Int)))), (3, .c (.v (.int .i64 q.1.2.1))), (4, .ref 1000000 1 0 0), (5, .ref 0 1 0 0), (11, .ref 56 1 0 0), (12, .c (.v (.int .i64 (q.1.1 : Int))))])
  (fun q => [(0, ⟨false, 24, 2, [[.c (.sl 10 (s.nodes.map NT.cells)), .c (.v (.int .i64 s.root))]]⟩), (56, ⟨false, 33, 10, [nd.cells.map .c]⟩), (1000000, ⟨false, 149, 3, [[.c (.sl 1 (bytePV B)), .c (.v (.int .i64 (q.1.2.2.1 : Int))), .c (.v (.int .i64 q.1.2.2.2))]]⟩)]) 4000 (fun q => nd.fields.length - q.1.1)
  ⟨(0, L - 1, p, 0), Nat.zero_le _, by simp only []; omega, by simp only []; omega, hp, hF⟩ ?_ ?_
 · exact weakZF (@ncells_mk)
 rintro ⟨⟨i, M, q, e⟩, i1, i2, i3, i4, i5⟩
 simp only [] at i1 i2 i3 i4 i5 ⊢
 by_cases hlt : i < nd.fields.length
 rotate_left
 · have f1 : decide ((i : Int) < (nd.fields.length : Int)) = false := by simp; omega
   have hie : i = nd.fields.length := by omega
   have g := i5
   rw [hie, List.drop_length, runF] at g
   refine walkBF (And.intro @ncells_mk f1) ?_
   refine retXF (g) Tryz.results105 ?_
   exact .c _
 have f1 : decide ((i : Int) < (nd.fields.length : Int)) = true := by simp; omega
 obtain ⟨fd, hx⟩ : ∃ fd, nd.fields[i]? = some fd := ⟨nd.fields[i], List.getElem?_eq_getElem hlt⟩
 have hxq : (nd.fields.map FT.cells)[i]? = some fd.cells := by rw [List.getElem?_map, hx]; rfl
 have hdr : nd.fields.drop i = fd :: nd.fields.drop (i + 1) := by
  rw [List.drop_eq_getElem_cons hlt]
  congr 1
  exact Option.some.inj ((List.getElem?_eq_getElem hlt).symm.trans hx)
 have hwi : IntKind.i64.wrap ((i : Int) + 1) = ((i + 1 : Nat) : Int) := by rw [wrap64_id (by omega) (by omega)]; omega
 have g := i5
 rw [hdr, runF] at g
 by_cases hM : 0 ≤ M
 · rw [if_pos hM] at g
   have f2 : decide (M ≥ 0) = true := by simpa using hM
   obtain ⟨b1, b2, b3, hT⟩ := hlf fd (List.mem_of_getElem? hx) M q e hM i3 i4
   have b4 := b1.le
   clear b1
   generalize lf fd.type M q e = R at g b2 b3 b4 hT
   refine walkBF (And.intro @ncells_mk (And.intro f1 (And.intro f2 (And.intro hxq (And.intro hwd @fcells_mk))))) ?_
   refine walkLF (@ncells_mk) [1000000] (hT) ?_
   refine walkBF (And.intro @ncells_mk hwi) ?_
   refine .next ⟨(i + 1, R.1, R.2.1, R.2.2), hlt, b2, by simp only []; omega, b4, g⟩ ?_ (by simp only []; omega)
   exact weakZF (@ncells_mk)
 · rw [if_neg hM] at g
   have f2 : decide (M ≥ 0) = false := by simp; omega
   refine walkBF (And.intro @ncells_mk (And.intro f1 f2)) ?_
   refine retXF (g) Tryz.results105 ?_
   exact .c _
theorem rleft13_told (s : ST) (B : List UInt8) (hB : B.length ≤ 1000000) (a : Nat) (nd : NT) (hnd : s.nodes[a]? = some nd) (hk : nd.kind = 13) (dep : Nat) (hd : dep < 20) (lf : Int → Int → Nat → Int → Int × Nat × Int) (hbl : 0 < nd.branches.length) (hlf : ∀ b ∈ nd.branches, LfT s B b (dep + 1) (lf b))
  (L : Int) (h0 : 1 ≤ L) (h1 : L ≤ 200000) (p : Nat) (hp : p ≤ B.length) : LfE s B (a : Int) dep L p 0 := by
 have hnp : (s.nodes.map NT.cells)[a]? = some nd.cells := by rw [List.getElem?_map, hnd]; rfl
 have ha : a < s.nodes.length := (List.getElem?_eq_some_iff.1 hnd).1
 have hw : IntKind.i64.wrap (L - 1) = L - 1 := wrap64_id (by omega) (by omega)
 have g8 : decide (nd.kind ≤ 8) = false := by simp; omega
 have g10 : (nd.kind == 10) = false := by rw [hk]; rfl
 have g14 : (nd.kind == 14) = false := by rw [hk]; rfl
 have g9 : (nd.kind == 9) = false := by rw [hk]; rfl
 have g13 : (nd.kind == 13) = true := by rw [hk]; rfl
 have gd : ((dep : Int) == 20) = false := by simp; omega
 have gl : decide (L - 1 < 0) = false := by simp; omega
 have hwd : IntKind.i64.wrap ((dep : Int) + 1) = ((dep + 1 : Nat) : Int) := by rw [wrap64_id (by omega) (by omega)]; omega
 obtain ⟨n, q, e, a1, a2, hP⟩ := rplacel_told B hB p hp 0 nd.branches.length
 have hn : n < nd.branches.length := by omega
 obtain ⟨b, hb⟩ : ∃ b, nd.branches[n]? = some b := ⟨_, List.getElem?_eq_getElem hn⟩
 have hbp : (nd.branches.map iPV)[n]? = some [.v (.int .i64 b)] := by rw [List.getElem?_map, hb]; rfl
 obtain ⟨b1, b2, b3, hT⟩ := hlf b (List.mem_of_getElem? hb) (L - 1) q e (by omega) (by omega) a1.le
 refine ⟨(lf b (L - 1) q e).1, (lf b (L - 1) q e).2.1, (lf b (L - 1) q e).2.2, ⟨b1.le, Nat.le_trans a1.up b1.up, fun h => absurd rfl h⟩, b2, by omega, ?_⟩
 generalize lf b (L - 1) q e = R at hT
 clear b1 b2 b3 hlf
 rw [ST.av_eq, scells_mk] at *
 unfold rB at *
 have hbl2 : (nd.branches.map iPV).length = nd.branches.length := List.length_map _
 clear hb
 refine VC.toldX ent_105 [] Tryz.func105 rfl Tryz.ntmps105 fun hb hbL => ?_
 clear hb hbL
 refine walkBF (And.intro hnp (And.intro @ncells_mk (And.intro @len_ncells (And.intro hw (And.intro g8 (And.intro g10 (And.intro g14 (And.intro g9 (And.intro g13 (And.intro gd gl)))))))))) ?_
 refine walkLF (@ncells_mk) [1000000] (hP) ?_
 refine walkBF (And.intro @ncells_mk (And.intro hbp hwd)) ?_
 refine walkLF (@ncells_mk) [1000000] (hT) ?_
 refine walkB ?_
 refine retX Tryz.results105 ?_
 exact .c _
def stepS (mp : Bool) (txt : Nat → Nat × Int) (lf : Int → Nat → Int → Int × Nat × Int) (L : Int) (p : Nat) : Int × Nat × Int := if mp = true then lf L (txt p).1 (txt p).2 else lf L p 0
theorem rleft11_told (s : ST) (B : List UInt8) (hB : B.length ≤ 1000000) (a : Nat) (nd : NT) (hnd : s.nodes[a]? = some nd) (hk : nd.kind = 11 ∨ nd.kind = 12) (dep : Nat) (hd : dep < 20) (lf : Int → Nat → Int → Int × Nat × Int) (hlf : LfT s B nd.items (dep + 1) lf)
  (txt : Nat → Nat × Int) (htx : ∀ p, p ≤ B.length → Adv B p 0 (txt p).1 (txt p).2 ∧ ∃ l : List UInt8, ToldM Tryz.prog 163 [.ref 1000000 1 0 0] [rB B p 0] [some (rB B (txt p).1 (txt p).2)] (.c (.sl 1 (bytePV l))))
  (cnt : Nat → Nat → Int → Nat × Nat × Int) (hcl : CntL B cnt) (hcn : ∀ (h p : Nat) (e : Int), h ≤ 300 → p ≤ B.length → ToldM Tryz.prog 162 [.ref 1000000 1 0 0, .c (.v (.int .i64 (h : Int)))] [rB B p e] [some (rB B (cnt h p e).2.1 (cnt h p e).2.2)] (.c (.v (.int .i64 ((cnt h p e).1 : Int)))))
  (L : Int) (h0 : 1 ≤ L) (h1 : L ≤ 200000) (p : Nat) (hp : p ≤ B.length) : LfE s B (a : Int) dep L p 0 := by
 have hnp : (s.nodes.map NT.cells)[a]? = some nd.cells := by rw [List.getElem?_map, hnd]; rfl
 have ha : a < s.nodes.length := (List.getElem?_eq_some_iff.1 hnd).1
 have hw : IntKind.i64.wrap (L - 1) = L - 1 := wrap64_id (by omega) (by omega)
 have g8 : decide (nd.kind ≤ 8) = false := by simp; omega
 have g10 : (nd.kind == 10) = false := by simp; omega
 have g14 : (nd.kind == 14) = false := by simp; omega
 have g9 : (nd.kind == 9) = false := by simp; omega
 have g13 : (nd.kind == 13) = false := by simp; omega
 have gd : ((dep : Int) == 20) = false := by simp; omega
 have gl : decide (L - 1 < 0) = false := by simp; omega
 have hwd : IntKind.i64.wrap ((dep : Int) + 1) = ((dep + 1 : Nat) : Int) := by rw [wrap64_id (by omega) (by omega)]; omega
 obtain ⟨mp, hmp⟩ : ∃ b, b = (nd.kind == 12) := ⟨_, rfl⟩
 have hstep : StepL B (stepS mp txt lf) := by
  intro M q q1 q2 q3
  unfold stepS
  split
  · obtain ⟨b1, _⟩ := htx q q3
    obtain ⟨c1, c2, c3, _⟩ := hlf M (txt q).1 (txt q).2 q1 q2 b1.le
    exact ⟨Nat.le_trans b1.up c1.up, c1.le, c2, c3⟩
  · obtain ⟨c1, c2, c3, _⟩ := hlf M q 0 q1 q2 q3
    exact ⟨c1.up, c1.le, c2, c3⟩
 obtain ⟨n1, n2, n3, n4⟩ := hcl 0 p 0 (by decide) hp
 have hC0 := hcn 0 p 0 (by decide) hp
 rw [show ((0 : Nat) : Int) = 0 from rfl] at hC0
 obtain ⟨m0, q0, x0, hc0⟩ : ∃ x y z, cnt 0 p 0 = (x, y, z) := ⟨_, _, _, rfl⟩
 rw [hc0] at n1 n2 n3 n4 hC0
 simp only [] at n1 n2 n3 n4 hC0
 obtain ⟨F, hF⟩ : ∃ F, F = runO (stepS mp txt lf) cnt 301 m0 0 (L - 1) q0 x0 := ⟨_, rfl⟩
 obtain ⟨z1, z2, z3, z4⟩ := runO_ok hstep hcl 301 m0 0 (L - 1) q0 x0 n3 (by omega) (by omega) n2
 rw [← hF] at z1 z2 z3 z4
 refine ⟨F.1, F.2.1, F.2.2, ⟨z4, Nat.le_trans n1 z3, fun h => absurd rfl h⟩, z1, by omega, ?_⟩
 unfold LfT at hlf
 rw [ST.av_eq, scells_mk] at *
 unfold rB at *
 refine VC.toldX ent_105 [] Tryz.func105 rfl Tryz.ntmps105 fun hb hbL => ?_
 clear hb hbL
 refine walkBF (And.intro hnp (And.intro @ncells_mk (And.intro @len_ncells (And.intro hw (And.intro g8 (And.intro g10 (And.intro g14 (And.intro g9 (And.intro g13 (And.intro gd gl)))))))))) ?_
 refine walkLF (@ncells_mk) [1000000] (hC0) ?_
 refine walkBF (@ncells_mk) ?_
 refine VC.loop (ι := {q : (Nat × Nat × Nat) × Int × Nat × Int // q.1.1 + q.1.2.1 ≤ 300 ∧ 301 ≤ q.1.2.1 + q.1.2.2 ∧ -1 ≤ q.2.1 ∧ q.2.1 ≤ 200000 ∧ q.2.2.1 ≤ B.length ∧ (q.2.2.2 ≠ 0 → q.1.1 = 0) ∧ F = runO (stepS mp txt lf) cnt q.1.2.2 q.1.1 q.1.2.1 q.2.1 q.2.2.1 q.2.2.2})
  (fun q => [(2, .c (.v (.int .i64 (dep : Int)))), (3, .c (.v (.int .i64 q.1.2.1))), (4, .ref 1000000 1 0 0), (5, .ref 0 1 0 0), (11, .ref 56 1 0 0), (14, .c (.v (.int .i64 (q.1.1.2.1 : Int)))), (15, .c (.v (.int .i64 (q.1.1.1 : Int))))])
  (fun q => [(0, ⟨false, 24, 2, [[.c (.sl 10 (s.nodes.map NT.cells)), .c (.v (.int .i64 s.root))]]⟩), (56, ⟨false, 33, 10, [nd.cells.map .c]⟩), (1000000, ⟨false, 149, 3, [[.c (.sl 1 (bytePV B)), .c (.v (.int .i64 (q.1.2.2.1 : Int))), .c (.v (.int .i64 q.1.2.2.2))]]⟩)]) 4000 (fun q => q.1.1.2.2)
  ⟨((m0, 0, 301), L - 1, q0, x0), n3, by simp only []; omega, by simp only []; omega, by simp only []; omega, n2, n4, hF⟩ ?_ ?_
 · simp only [ncells_mk, List.length_map, Weak, eq_self, used_is, sc_any, sc_c, sc_pp, sc_ref, sc_row, sc_agg, sc_fn, ScL, some_imp, List.forall_mem_map, go_sem, Int.reduceBEq, Int.reduceLE, Int.reduceLT, Int.reduceNeg, Nat.reduceAdd, Nat.reduceEqDiff, Nat.reduceLT, Nat.reduceLeDiff, Nat.reduceMul, Nat.reduceSub, reduceCtorEq, ↓reduceIte]
   (try simp)
 rintro ⟨⟨⟨m, h, k⟩, M, q, e⟩, i1, i2, i3, i4, i5, i6, i7⟩
 simp only [] at i1 i2 i3 i4 i5 i6 i7 ⊢
 by_cases hgo : 0 < m ∧ 0 ≤ M
 rotate_left
 · have g : F = (M, q, e) := by
    rw [i7]
    cases k with
    | zero => rfl
    | succ k => rw [runO, if_neg hgo]
   by_cases hm0 : 0 < m
   · have f1 : decide ((m : Int) > 0) = true := by simpa using hm0
     have f2 : decide (M ≥ 0) = false := by simp; omega
     refine walkBF (And.intro @ncells_mk (And.intro f1 f2)) ?_
     refine retXF (g) Tryz.results105 ?_
     exact .c _
   · have f1 : decide ((m : Int) > 0) = false := by simpa using hm0
     refine walkBF (And.intro @ncells_mk f1) ?_
     refine retXF (g) Tryz.results105 ?_
     exact .c _
 have f1 : decide ((m : Int) > 0) = true := by simpa using hgo.1
 have f2 : decide (M ≥ 0) = true := by simpa using hgo.2
 have he : e = 0 := Decidable.not_not.1 fun h0 => by have := i6 h0; omega
 obtain ⟨k, rfl⟩ : ∃ k', k = k' + 1 := ⟨k - 1, by omega⟩
 have g := i7
 rw [runO, if_pos hgo] at g
 obtain ⟨RI, hRI⟩ : ∃ RI, RI = runI (stepS mp txt lf) m h M q e := ⟨_, rfl⟩
 obtain ⟨r1, r2, r3, r4, r5, r6⟩ := runI_ok hstep m h M q e i3 i4 i5
 rw [← hRI] at g r1 r2 r3 r4 r5 r6
 have hh1 : h + 1 ≤ RI.1 := by
  obtain ⟨m', rfl⟩ : ∃ m', m = m' + 1 := ⟨m - 1, by omega⟩
  rw [hRI, runI, if_pos ⟨he, hgo.2⟩]
  obtain ⟨a1, a2, a3, a4⟩ := hstep M q hgo.2 i4 i5
  exact (runI_ok hstep m' (h + 1) _ _ _ a3 (by omega) a2).1
 refine walkBF (And.intro @ncells_mk (And.intro f1 f2)) ?_
 refine VC.loop (ι := {w : (Nat × Nat) × Int × Nat × Int // w.1.1 ≤ m ∧ w.1.2 = h + w.1.1 ∧ -1 ≤ w.2.1 ∧ w.2.1 ≤ 200000 ∧ w.2.2.1 ≤ B.length ∧ RI = runI (stepS mp txt lf) (m - w.1.1) w.1.2 w.2.1 w.2.2.1 w.2.2.2})
  (fun w => [(2, .c (.v (.int .i64 (dep : Int)))), (3, .c (.v (.int .i64 w.1.2.1))), (4, .ref 1000000 1 0 0), (5, .ref 0 1 0 0), (11, .ref 56 1 0 0), (14, .c (.v (.int .i64 (w.1.1.2 : Int)))), (15, .c (.v (.int .i64 (m : Int)))), (16, .c (.v (.int .i64 (w.1.1.1 : Int))))])
  (fun w => [(0, ⟨false, 24, 2, [[.c (.sl 10 (s.nodes.map NT.cells)), .c (.v (.int .i64 s.root))]]⟩), (56, ⟨false, 33, 10, [nd.cells.map .c]⟩), (1000000, ⟨false, 149, 3, [[.c (.sl 1 (bytePV B)), .c (.v (.int .i64 (w.1.2.2.1 : Int))), .c (.v (.int .i64 w.1.2.2.2))]]⟩)]) 8000 (fun w => m - w.1.1.1)
  ⟨((0, h), M, q, e), Nat.zero_le _, rfl, i3, i4, i5, hRI⟩ ?_ ?_
 · exact weakZF (@ncells_mk)
 rintro ⟨⟨⟨i, hh⟩, M2, q2, e2⟩, j1, j2, j3, j4, j5, j6⟩
 simp only [] at j1 j2 j3 j4 j5 j6 ⊢
 by_cases hin : i < m ∧ (e2 = 0 ∧ 0 ≤ M2)
 rotate_left
 · have gR : RI = (hh, M2, q2, e2) := by
    rw [j6]
    exact runI_end (by omega)
   rw [gR] at g r1 r2 r3 r4 r5 r6 hh1
   simp only [] at g r1 r2 r3 r4 r5 r6 hh1
   obtain ⟨b1, b2, b3, b4⟩ := hcl hh q2 e2 (by omega) j5
   have hC := hcn hh q2 e2 (by omega) j5
   obtain ⟨m3, q3, e3, hc3⟩ : ∃ x y z, cnt hh q2 e2 = (x, y, z) := ⟨_, _, _, rfl⟩
   rw [hc3] at b1 b2 b3 b4 hC g
   simp only [] at b1 b2 b3 b4 hC g
   by_cases hi : i < m
   · have k1 : decide ((i : Int) < (m : Int)) = true := by simp; omega
     by_cases he2 : e2 = 0
     · have k3 : decide (M2 ≥ 0) = false := by simp; omega
       have k2 : (e2 == 0) = true := by simpa using he2
       refine walkBF (And.intro @ncells_mk (And.intro k1 (And.intro k2 k3))) ?_
       refine walkLF (@ncells_mk) [1000000] (hC) ?_
       refine walkBF (@ncells_mk) ?_
       refine .next ⟨((m3, hh, k), M2, q3, e3), by simp only []; omega, by simp only []; omega, j3, j4, b2, b4, g⟩ ?_ (by simp only []; omega)
       exact weakZF (@ncells_mk)
     · have k2 : (e2 == 0) = false := by simpa using he2
       refine walkBF (And.intro @ncells_mk (And.intro k1 k2)) ?_
       refine walkLF (@ncells_mk) [1000000] (hC) ?_
       refine walkBF (@ncells_mk) ?_
       refine .next ⟨((m3, hh, k), M2, q3, e3), by simp only []; omega, by simp only []; omega, j3, j4, b2, b4, g⟩ ?_ (by simp only []; omega)
       exact weakZF (@ncells_mk)
   · have k1 : decide ((i : Int) < (m : Int)) = false := by simp; omega
     refine walkBF (And.intro @ncells_mk k1) ?_
     refine walkLF (@ncells_mk) [1000000] (hC) ?_
     refine walkBF (@ncells_mk) ?_
     refine .next ⟨((m3, hh, k), M2, q3, e3), by simp only []; omega, by simp only []; omega, j3, j4, b2, b4, g⟩ ?_ (by simp only []; omega)
     exact weakZF (@ncells_mk)
 obtain ⟨hi, he2, hM2⟩ := hin
 subst he2
 have k1 : decide ((i : Int) < (m : Int)) = true := by simp; omega
 have k3 : decide (M2 ≥ 0) = true := by simpa using hM2
 have hwi : IntKind.i64.wrap ((i : Int) + 1) = ((i + 1 : Nat) : Int) := by rw [wrap64_id (by omega) (by omega)]; omega
 have hwh : IntKind.i64.wrap ((hh : Int) + 1) = ((hh + 1 : Nat) : Int) := by rw [wrap64_id (by omega) (by omega)]; omega
 have gj := j6
 obtain ⟨z, hz⟩ : ∃ z, m - i = z + 1 := ⟨m - i - 1, by omega⟩
 have hz' : m - (i + 1) = z := by omega
 rw [hz, runI, if_pos ⟨rfl, hM2⟩, ← hz'] at gj
 cases mp with
 | true =>
   have e12 : (nd.kind == 12) = true := hmp.symm
   obtain ⟨t1, l, hT⟩ := htx q2 j5
   rw [stepS, if_pos rfl] at gj
   have t2 := t1.le
   generalize txt q2 = T at t1 t2 hT gj
   obtain ⟨c1, c2, c3, hL⟩ := hlf M2 T.1 T.2 hM2 j4 t2
   have c4 := c1.le
   generalize lf M2 T.1 T.2 = R at c1 c2 c3 c4 hL gj
   refine walkBF (And.intro @ncells_mk (And.intro k1 (And.intro k3 e12))) ?_
   refine walkLF (@ncells_mk) [1000000] (hT) ?_
   refine walkBF (And.intro @ncells_mk hwd) ?_
   refine walkLF (@ncells_mk) [1000000] (hL) ?_
   refine walkBF (And.intro @ncells_mk (And.intro hwi hwh)) ?_
   refine .next ⟨((i + 1, hh + 1), R.1, R.2.1, R.2.2), hi, by simp only []; omega, c2, by simp only []; omega, c4, gj⟩ ?_ (by simp only []; omega)
   exact weakZF (@ncells_mk)
 | false =>
   have e12 : (nd.kind == 12) = false := hmp.symm
   rw [stepS, if_neg Bool.false_ne_true] at gj
   obtain ⟨c1, c2, c3, hL⟩ := hlf M2 q2 0 hM2 j4 j5
   have c4 := c1.le
   generalize lf M2 q2 0 = R at c1 c2 c3 c4 hL gj
   refine walkBF (And.intro @ncells_mk (And.intro k1 (And.intro k3 (And.intro e12 hwd)))) ?_
   refine walkLF (@ncells_mk) [1000000] (hL) ?_
   refine walkBF (And.intro @ncells_mk (And.intro hwi hwh)) ?_
   refine .next ⟨((i + 1, hh + 1), R.1, R.2.1, R.2.2), hi, by simp only []; omega, c2, by simp only []; omega, c4, gj⟩ ?_ (by simp only []; omega)
   exact weakZF (@ncells_mk)

theorem rleaf_any (s : ST) (B : List UInt8) (hB : B.length ≤ 1000000) (a : Nat) (nd : NT) (hnd : s.nodes[a]? = some nd) (hN : nodeM s.nodes nd = true) (hk : nd.kind < 9 ∨ nd.kind = 10 ∨ nd.kind = 14) (dep : Nat) (p : Nat) (hp : p ≤ B.length) (e : Int) : LeafR s (a : Int) dep B p e := by
 by_cases he : e = 0
 rotate_left
 · exact rleafe_told s B a nd hnd hk dep p hp e he
 subst he
 unfold nodeM at hN
 simp only [Bool.and_eq_true, decide_eq_true_eq] at hN
 obtain ⟨⟨k1, k2, _⟩, _, hS⟩ := hN
 by_cases h2 : nd.kind = 2
 · exact rleaf2_told s B hB a nd hnd h2 dep p hp
 by_cases h3 : nd.kind = 3
 · exact rleaf3_told s B hB a nd hnd h3 dep p hp
 by_cases h4 : nd.kind = 4
 · exact rleaf4_told s B hB a nd hnd h4 dep p hp
 by_cases h5 : nd.kind = 5
 · exact rleaf5_told s B hB a nd hnd h5 dep p hp
 by_cases h6 : nd.kind = 6
 · exact rleaf6_told s B hB a nd hnd h6 dep p hp
 by_cases h7 : nd.kind = 7
 · exact rleaf7_told s B hB a nd hnd h7 dep p hp
 by_cases h8 : nd.kind = 8
 · exact rleaf8_told s B hB a nd hnd h8 dep p hp
 by_cases h14 : nd.kind = 14
 · rw [h14, if_neg (by decide), if_neg (by decide), if_pos rfl] at hS
   simp only [Bool.and_eq_true, decide_eq_true_eq] at hS
   exact rleaf14_told s B hB a nd hnd h14 ⟨by omega, by omega⟩ dep p hp
 by_cases h10 : nd.kind = 10
 · exact rleaf10_told s B hB a nd hnd h10 dep p hp
 · exact rleaf1_told s B hB a nd hnd (by omega) dep p hp
theorem rleft_told (s : ST) (hr : rightM s = true) (B : List UInt8) (hB : B.length ≤ 1000000) : ∀ (d : Nat), d ≤ 20 → ∀ a : Int, 0 ≤ a → a < (s.nodes.length : Int) → ∀ L p e, 0 ≤ L → L ≤ 200000 → p ≤ B.length → LfE s B a (20 - d) L p e := by
 obtain ⟨txt, htx⟩ : ∃ txt : Nat → Nat × Int, ∀ p, p ≤ B.length → Adv B p 0 (txt p).1 (txt p).2 ∧ ∃ l : List UInt8, ToldM Tryz.prog 163 [.ref 1000000 1 0 0] [rB B p 0] [some (rB B (txt p).1 (txt p).2)] (.c (.sl 1 (bytePV l))) := by
  have key : ∀ p : Nat, ∃ t : Nat × Int, p ≤ B.length → Adv B p 0 t.1 t.2 ∧ ∃ l : List UInt8, ToldM Tryz.prog 163 [.ref 1000000 1 0 0] [rB B p 0] [some (rB B t.1 t.2)] (.c (.sl 1 (bytePV l))) := by
   intro p
   by_cases h : p ≤ B.length
   · obtain ⟨l, q, e', h1, h2⟩ := r4text_told B hB p h 0
     exact ⟨(q, e'), fun _ => ⟨h1, l, h2⟩⟩
   · exact ⟨(0, 0), fun h' => absurd h' h⟩
  exact ⟨fun p => Classical.choose (key p), fun p hp => Classical.choose_spec (key p) hp⟩
 obtain ⟨cnt, hcnt⟩ : ∃ cnt : Nat → Nat → Int → Nat × Nat × Int, ∀ (h p : Nat) (e : Int), h ≤ 300 → p ≤ B.length → (p ≤ (cnt h p e).2.1 ∧ (cnt h p e).2.1 ≤ B.length ∧ (cnt h p e).1 + h ≤ 300 ∧ ((cnt h p e).2.2 ≠ 0 → (cnt h p e).1 = 0)) ∧
   ToldM Tryz.prog 162 [.ref 1000000 1 0 0, .c (.v (.int .i64 (h : Int)))] [rB B p e] [some (rB B (cnt h p e).2.1 (cnt h p e).2.2)] (.c (.v (.int .i64 ((cnt h p e).1 : Int)))) := by
  have key : ∀ (h p : Nat) (e : Int), ∃ t : Nat × Nat × Int, h ≤ 300 → p ≤ B.length → (p ≤ t.2.1 ∧ t.2.1 ≤ B.length ∧ t.1 + h ≤ 300 ∧ (t.2.2 ≠ 0 → t.1 = 0)) ∧
    ToldM Tryz.prog 162 [.ref 1000000 1 0 0, .c (.v (.int .i64 (h : Int)))] [rB B p e] [some (rB B t.2.1 t.2.2)] (.c (.v (.int .i64 (t.1 : Int)))) := by
   intro h p e
   by_cases hh : h ≤ 300 ∧ p ≤ B.length
   · obtain ⟨m, q, e', h1, h2, h3, h4⟩ := rcount_told B hB p hh.2 e h hh.1
     exact ⟨(m, q, e'), fun _ _ => ⟨⟨h1.up, h1.le, h2, h3⟩, h4⟩⟩
   · exact ⟨(0, 0, 0), fun h1 h2 => absurd ⟨h1, h2⟩ hh⟩
  exact ⟨fun h p e => Classical.choose (key h p e), fun h p e h1 h2 => Classical.choose_spec (key h p e) h1 h2⟩
 intro d
 induction d with
 | zero =>
   intro _ a ha ha' L p e h0 h1 hp
   obtain ⟨m, rfl⟩ : ∃ m : Nat, a = (m : Int) := ⟨a.toNat, by omega⟩
   obtain ⟨nd, hnd⟩ : ∃ nd, s.nodes[m]? = some nd := ⟨_, List.getElem?_eq_getElem (show m < s.nodes.length by omega)⟩
   have hN := right_nodes hr nd (List.mem_of_getElem? hnd)
   have hkk : (nd.kind < 9 ∨ nd.kind = 10 ∨ nd.kind = 14) ∨ (nd.kind = 9 ∨ nd.kind = 11 ∨ nd.kind = 12 ∨ nd.kind = 13) := by
    unfold nodeM at hN
    simp only [Bool.and_eq_true, decide_eq_true_eq] at hN
    omega
   rcases hkk with hk | hk
   · exact rleftl_told s B m nd hnd hk _ L h0 h1 p e (rleaf_any s B hB m nd hnd hN hk _ p hp e)
   · exact rleft0_told s B m nd hnd hk _ L h0 h1 p hp e (.inl rfl)
 | succ d ih =>
   intro hd a ha ha' L p e h0 h1 hp
   obtain ⟨m, rfl⟩ : ∃ m : Nat, a = (m : Int) := ⟨a.toNat, by omega⟩
   obtain ⟨nd, hnd⟩ : ∃ nd, s.nodes[m]? = some nd := ⟨_, List.getElem?_eq_getElem (show m < s.nodes.length by omega)⟩
   have hmem := List.mem_of_getElem? hnd
   have hN := right_nodes hr nd hmem
   have hkk : (nd.kind < 9 ∨ nd.kind = 10 ∨ nd.kind = 14) ∨ (nd.kind = 9 ∨ nd.kind = 11 ∨ nd.kind = 12 ∨ nd.kind = 13) := by
    unfold nodeM at hN
    simp only [Bool.and_eq_true, decide_eq_true_eq] at hN
    omega
   rcases hkk with hk | hk
   · exact rleftl_told s B m nd hnd hk _ L h0 h1 p e (rleaf_any s B hB m nd hnd hN hk _ p hp e)
   by_cases hstop : e ≠ 0 ∨ L = 0
   · exact rleft0_told s B m nd hnd hk _ L h0 h1 p hp e (.inr ⟨by omega, hstop⟩)
   have he : e = 0 := Decidable.not_not.1 fun h => hstop (.inl h)
   subst he
   have hL1 : 1 ≤ L := by
    have : L ≠ 0 := fun h => hstop (.inr h)
    omega
   have hkid := ordered_kids (right_ordered hr) nd hmem
   obtain ⟨lf, hlf⟩ := lf_of (ih (by omega))
   have hdep : 20 - (d + 1) < 20 := by omega
   have hdep1 : 20 - d = 20 - (d + 1) + 1 := by omega
   rw [hdep1] at hlf
   unfold nodeM at hN
   simp only [Bool.and_eq_true, decide_eq_true_eq] at hN
   have hS := hN.2.2
   by_cases h9 : nd.kind = 9
   · rw [if_pos h9] at hS
     unfold fieldsM at hS
     simp only [Bool.and_eq_true, decide_eq_true_eq] at hS
     have hkf : ∀ t ∈ nd.fields, 0 ≤ t.type ∧ t.type < (s.nodes.length : Int) := fun t ht => hkid t.type (by unfold kidsN; rw [if_pos h9]; exact List.mem_map_of_mem ht)
     exact rleft9_told s B m nd hnd h9 _ hdep lf (by omega) (fun t ht => hlf t.type (hkf t ht).1 (hkf t ht).2) L hL1 h1 p hp
   by_cases h13 : nd.kind = 13
   · have hbk : ∀ b ∈ nd.branches, 0 ≤ b ∧ b < (s.nodes.length : Int) := fun b hb => hkid b (by unfold kidsN; rw [if_neg h9, if_neg (by omega), if_pos h13]; exact hb)
     rw [h13, if_neg (by decide), if_neg (by decide), if_neg (by decide), if_pos rfl] at hS
     unfold unionM at hS
     simp only [Bool.and_eq_true, decide_eq_true_eq] at hS
     exact rleft13_told s B hB m nd hnd h13 _ hdep lf (by omega) (fun b hb => hlf b (hbk b hb).1 (hbk b hb).2) L hL1 h1 p hp
   · have hk2 : nd.kind = 11 ∨ nd.kind = 12 := by omega
     have hb := hkid nd.items (by unfold kidsN; rw [if_neg h9, if_pos hk2]; simp)
     exact rleft11_told s B hB m nd hnd hk2 _ hdep (lf nd.items) (hlf _ hb.1 hb.2) txt htx cnt (fun h p e h1 h2 => (hcnt h p e h1 h2).1) (fun h p e h1 h2 => (hcnt h p e h1 h2).2) L hL1 h1 p hp
theorem rmuch_told (s : ST) (hs : s.sm 1000000) (hdp : ∀ n ∈ s.nodes, ∀ f ∈ n.fields, tdeep f.dflt ≤ 1000) (a : Int) (B : List UInt8) (hB : B.length ≤ 1000000) (p : Int) : ∃ b : Bool, Told Tryz.prog 59 [s.av, .c (.v (.int .i64 a)), .c (.sl 1 (bytePV B)), .c (.v (.int .i64 p))] (.c (.v (.bool b))) := by
 have hR := rRight_told s hs hdp
 have hbl := bytePV_l B
 rw [ST.av_eq] at hR ⊢
 rw [scells_mk] at hR ⊢
 cases hr : rightM s with
 | false =>
   rw [hr] at hR
   refine ⟨false, ?_⟩
   refine VC.toldP ent_59 Tryz.func59 rfl Tryz.ntmps59 fun hb => ?_
   clear hb
   refine walkGF (@scells_mk) ?_
   refine walkCF (@pureL_c) (hR) ?_
   refine walkB ?_
   refine retX Tryz.results59 ?_
   exact .c _
 | true =>
 rw [hr] at hR
 by_cases h1 : a < 0
 · have e1 : decide (a < 0) = true := by simpa using h1
   refine ⟨false, ?_⟩
   refine VC.toldP ent_59 Tryz.func59 rfl Tryz.ntmps59 fun hb => ?_
   clear hb
   refine walkGF (@scells_mk) ?_
   refine walkCF (@pureL_c) (hR) ?_
   refine walkBF (e1) ?_
   refine retX Tryz.results59 ?_
   exact .c _
 have e1 : decide (a < 0) = false := by simpa using h1
 by_cases h2 : (s.nodes.length : Int) ≤ a
 · have e2 : decide (a ≥ (s.nodes.length : Int)) = true := by simpa using h2
   refine ⟨false, ?_⟩
   refine VC.toldP ent_59 Tryz.func59 rfl Tryz.ntmps59 fun hb => ?_
   clear hb
   refine walkGF (@scells_mk) ?_
   refine walkCF (@pureL_c) (hR) ?_
   refine walkBF (And.intro e1 e2) ?_
   refine retX Tryz.results59 ?_
   exact .c _
 have e2 : decide (a ≥ (s.nodes.length : Int)) = false := by simpa using h2
 by_cases h3 : p < 0
 · have e3 : decide (p < 0) = true := by simpa using h3
   refine ⟨false, ?_⟩
   refine VC.toldP ent_59 Tryz.func59 rfl Tryz.ntmps59 fun hb => ?_
   clear hb
   refine walkGF (@scells_mk) ?_
   refine walkCF (@pureL_c) (hR) ?_
   refine walkBF (And.intro e1 (And.intro e2 e3)) ?_
   refine retX Tryz.results59 ?_
   exact .c _
 have e3 : decide (p < 0) = false := by simpa using h3
 by_cases h4 : (B.length : Int) < p
 · have e4 : decide (p > (B.length : Int)) = true := by simpa using h4
   refine ⟨false, ?_⟩
   refine VC.toldP ent_59 Tryz.func59 rfl Tryz.ntmps59 fun hb => ?_
   clear hb
   refine walkGF (@scells_mk) ?_
   refine walkCF (@pureL_c) (hR) ?_
   refine walkBF (And.intro e1 (And.intro e2 (And.intro e3 (And.intro e4 hbl)))) ?_
   refine retX Tryz.results59 ?_
   exact .c _
 have e4 : decide (p > (B.length : Int)) = false := by simpa using h4
 obtain ⟨m, rfl⟩ : ∃ m : Nat, p = (m : Int) := ⟨p.toNat, by omega⟩
 obtain ⟨L, q, e', _, _, _, hT⟩ := rleft_told s hr B hB 20 (Nat.le_refl _) a (by omega) (by omega) 200000 m 0 (by decide) (by decide) (by omega)
 rw [show ((20 - 20 : Nat) : Int) = 0 from rfl, ST.av_eq, scells_mk] at hT
 unfold rB at hT
 refine ⟨decide (L < 0), ?_⟩
 refine VC.toldP ent_59 Tryz.func59 rfl Tryz.ntmps59 fun hb => ?_
 clear hb
 refine walkGF (@scells_mk) ?_
 refine walkCF (@pureL_c) (hR) ?_
 refine walkBF (And.intro e1 (And.intro e2 (And.intro e3 (And.intro e4 (And.intro hbl @scells_mk))))) ?_
 refine walkL [248] (hT) ?_
 refine walkB ?_
 refine retX Tryz.results59 ?_
 exact .c _
theorem much_told (s : ST) (hs : s.sm 1000000) (hdp : ∀ n ∈ s.nodes, ∀ f ∈ n.fields, tdeep f.dflt ≤ 1000) (a : Int) (B : List UInt8) (hB : B.length ≤ 1000000) (p : Int) : ∃ b : Bool, Told Tryz.prog 26 [s.av, .c (.v (.int .i64 a)), .c (.sl 1 (bytePV B)), .c (.v (.int .i64 p))] (.c (.v (.bool b))) := by
 obtain ⟨b, hM⟩ := rmuch_told s hs hdp a B hB p
 refine ⟨b, ?_⟩
 rw [ST.av_eq] at hM ⊢
 refine VC.toldP ent_26 Tryz.func26 rfl Tryz.ntmps26 fun hb => ?_
 clear hb
 refine walkGF (And.intro @len_scells (And.intro @take_scells @take_scellsC)) ?_
 refine walkCF (@pureL_c) (hM) ?_
 refine walkG ?_
 refine retX Tryz.results26 ?_
 exact .c _

/-- Split, where a value stands that is no record. -/
theorem ksplit_told (s : ST) (hs : s.sm 1000000) (a : Nat) (B : List UInt8) (hB : B.length ≤ 1000000) (p : Nat) (h : ¬ NoK s (a : Int) B (p : Int)) (nd : NT) (hnd : s.nodes[a]? = some nd) (hk : nd.kind ≠ 9) (h0 : (takeM s (a : Int) B (p : Int)).2.2 = 0) :
  Told Tryz.prog 58 [s.av, .c (.v (.int .i64 (a : Int))), .c (.sl 1 (bytePV B)), .c (.v (.int .i64 (p : Int)))] (.tup [.c (.v (.slice none 0 0)), .c (.v (.int .i64 2))]) := by
 have hO := kopen_told s hs (a : Int) B hB p h
 have hP := kPast_told s hs (a : Int) B hB (p : Int)
 have hnp : (s.nodes.map NT.cells)[a]? = some nd.cells := by rw [List.getElem?_map, hnd]; rfl
 have ha : a < s.nodes.length := (List.getElem?_eq_some_iff.1 hnd).1
 have e9 : (nd.kind != 9) = true := by simpa using hk
 have e5 : ((0 : Int) != 0) = false := by decide
 rw [h0] at hP
 generalize (takeM s (a : Int) B (p : Int)).2.1 = t at hP
 rw [ST.av_eq] at hO hP ⊢
 rw [scells_mk] at hO hP ⊢
 unfold xB at hO
 refine VC.toldP ent_58 Tryz.func58 rfl Tryz.ntmps58 fun hb => ?_
 clear hb
 refine walkB ?_
 refine walkL [] (hO) ?_
 refine walkB ?_
 refine walkCF (@pureL_c) (hP) ?_
 refine walkBF (And.intro e5 (And.intro hnp (And.intro @ncells_mk (And.intro @len_ncells e9)))) ?_
 refine retX Tryz.results58 ?_
 exact ⟨.c _, .c _⟩
theorem kreads_of (hw : Told Tryz.prog 25 [] (.c (.v (.bool true)))) (s : ST) (a : Int) (b : List UInt8) (p : Int) :
  Told Tryz.prog 6 [s.av, .c (.v (.int .i64 a)), .c (.sl 1 (bytePV b)), .c (.v (.int .i64 p))] (.c (.v (.bool true))) := by
 have hS := sgreat_told s
 have hbb := bytePV_l b
 rw [ST.av_eq] at hS ⊢
 by_cases hs : 2500 < sbulk s
 · have e1 : decide (2500 < (sbulk s : Int)) = true := by simp; omega
   rw [e1] at hS
   refine VC.toldP ent_6 Tryz.func6 rfl Tryz.ntmps6 fun hb => ?_
   clear hb
   refine walkG ?_
   refine walkC (hw) ?_
   refine walkBF (And.intro @len_scells (And.intro @take_scells @take_scellsC)) ?_
   refine walkCF (@pureL_c) (hS) ?_
   refine walkB ?_
   refine retX Tryz.results6 ?_
   exact .c _
 have e1 : decide (2500 < (sbulk s : Int)) = false := by simp; omega
 rw [e1] at hS
 by_cases hb1 : 1500 < b.length
 · have e2 : decide ((b.length : Int) > 1500) = true := by simp; omega
   refine VC.toldP ent_6 Tryz.func6 rfl Tryz.ntmps6 fun hb => ?_
   clear hb
   refine walkG ?_
   refine walkC (hw) ?_
   refine walkBF (And.intro @len_scells (And.intro @take_scells @take_scellsC)) ?_
   refine walkCF (@pureL_c) (hS) ?_
   refine walkBF (And.intro hbb e2) ?_
   refine retX Tryz.results6 ?_
   exact .c _
 have e2 : decide ((b.length : Int) > 1500) = false := by simp; omega
 have hsm := ssm_le' (sbulk_sm (s := s) (by omega))
 have hdp := sbulk_deep (s := s) (by omega)
 obtain ⟨m1, hM1⟩ := much_told s hsm hdp a b (by omega) p
 rw [ST.av_eq] at hM1
 cases m1 with
 | true =>
   refine VC.toldP ent_6 Tryz.func6 rfl Tryz.ntmps6 fun hb => ?_
   clear hb
   refine walkG ?_
   refine walkC (hw) ?_
   refine walkBF (And.intro @len_scells (And.intro @take_scells @take_scellsC)) ?_
   refine walkCF (@pureL_c) (hS) ?_
   refine walkBF (And.intro hbb (And.intro e2 (And.intro @len_scells (And.intro @take_scells @take_scellsC)))) ?_
   refine walkCF (@pureL_c) (hM1) ?_
   refine walkB ?_
   refine retX Tryz.results6 ?_
   exact .c _
 | false =>
 have hT1 := kPast_told s hsm a b (by omega) p
 have hT2 := dtake_told s hsm a b (by omega) p
 rw [ST.av_eq] at hT1
 rw [ST.av_eq, VT.av_eq] at hT2
 generalize takeM s a b p = T at hT1 hT2
 have e6 : (T.2.2 == T.2.2) = true := by simp
 have e7 : (T.2.1 == T.2.1) = true := by simp
 refine VC.toldP ent_6 Tryz.func6 rfl Tryz.ntmps6 fun hb => ?_
 clear hb
 refine walkG ?_
 refine walkC (hw) ?_
 refine walkBF (And.intro @len_scells (And.intro @take_scells @take_scellsC)) ?_
 refine walkCF (@pureL_c) (hS) ?_
 refine walkBF (And.intro hbb (And.intro e2 (And.intro @len_scells (And.intro @take_scells @take_scellsC)))) ?_
 refine walkCF (@pureL_c) (hM1) ?_
 refine walkBF (And.intro @len_scells (And.intro @take_scells @take_scellsC)) ?_
 refine walkCF (@pureL_c) (hT1) ?_
 refine walkBF (And.intro @len_scells (And.intro @take_scells @take_scellsC)) ?_
 refine walkCF (@pureL_c) (hT2) ?_
 refine walkBF (And.intro e6 (And.intro e7 (And.intro @len_vcells (And.intro @take_vcells @take_vcellsC)))) ?_
 refine retX Tryz.results6 ?_
 exact .c _

theorem w20_a : takeM w11 0 [4, 6, 54, 0] 0 = (w19v, 4, 0) := by
 rw [takeM_go (by rw [w11_right]; decide), show ((0 : Int)).toNat = 0 from rfl, w19_1]
 rfl
theorem w20_1 : decM w11.nodes 20 0 [0] 0 = .ok (.mk 11 0 0 [] [] [], 1) := by kernel_rfl
theorem w20_b : takeM w11 0 [0] 0 = (.mk 11 0 0 [] [] [], 1, 0) := by
 rw [takeM_go (by rw [w11_right]; decide), show ((0 : Int)).toNat = 0 from rfl, w20_1]
 rfl
theorem works20_told : Told Tryz.prog 25 [] (.c (.v (.bool true))) := by
 have hA := kPast_told w11 w11_sm 0 [4, 6, 54, 0] (by decide) 0
 have hB := ksplit_told w11 w11_sm 0 [0] (by decide) 0 (by unfold NoK; rw [w11_right]; decide) w11a rfl (by decide) (by rw [show (((0 : Nat) : Int)) = 0 from rfl, w20_b])
 rw [w20_a] at hA
 rw [show (((0 : Nat) : Int)) = 0 from rfl] at hB
 simp only [ST.av_eq, scells_mk] at hA hB
 have e4 : ((4 : Int) == 4) = true := by decide
 have e0 : ((0 : Int) == 0) = true := by decide
 have e2 : ((2 : Int) == 2) = true := by decide
 refine VC.toldP ent_25 Tryz.func25 rfl Tryz.ntmps25 fun hb => ?_
 clear hb
 (refine VC.seq ?_; (first | refine VC.region (by rfl) (by rfl) ?_ | refine VC.draw mixP (by rfl) (by rfl) ?_); (repeat (refine AO.step fun K hK => ?_; simp only [go_sem, Int.reduceBEq, Int.reduceLE, Int.reduceLT, Int.reduceNeg, Nat.reduceAdd, Nat.reduceEqDiff, Nat.reduceLT, Nat.reduceLeDiff, Nat.reduceMul, Nat.reduceSub, reduceCtorEq, ↓reduceIte]; (first | refine gsel_skip ?_ | refine gsel_go ?_ | skip); (first | refine hK _ _ _ ?_ | refine ⟨by first | omega | exact ⟨_, rfl, rfl⟩ | exact fun _ => ⟨_, rfl, rfl⟩ | (intro h; simp only [h, true_and]; omega) | (clear hK; intro h; simp_all <;> omega), hK _ _ _ ?_⟩); clear hK K)); refine AO.nil ?_; first | refine SQ.normal ?_ | refine ⟨okd_of (by kernel_rfl), SQ.normal ?_⟩)
 (refine VC.seq ?_; (first | refine VC.region (by rfl) (by rfl) ?_ | refine VC.draw mixP (by rfl) (by rfl) ?_); (repeat (refine AO.step fun K hK => ?_; simp only [go_sem, Int.reduceBEq, Int.reduceLE, Int.reduceLT, Int.reduceNeg, Nat.reduceAdd, Nat.reduceEqDiff, Nat.reduceLT, Nat.reduceLeDiff, Nat.reduceMul, Nat.reduceSub, reduceCtorEq, ↓reduceIte]; (first | refine gsel_skip ?_ | refine gsel_go ?_ | skip); (first | refine hK _ _ _ ?_ | refine ⟨by first | omega | exact ⟨_, rfl, rfl⟩ | exact fun _ => ⟨_, rfl, rfl⟩ | (intro h; simp only [h, true_and]; omega) | (clear hK; intro h; simp_all <;> omega), hK _ _ _ ?_⟩); clear hK K)); refine AO.nil ?_; first | refine SQ.normal ?_ | refine ⟨okd_of (by kernel_rfl), SQ.normal ?_⟩)
 refine VC.frz [] [(1, .ref 40 1 0 0)] [(24, ⟨true, 33, 10, [w11a.cells.map .c, [.c (.v (.int .i64 3)), .c (.v (.string ⟨#[]⟩)), .c (.v (.slice none 0 0)), .c (.v (.slice none 0 0)), .c (.v (.slice none 0 0)), .c (.v (.bool false)), .c (.v (.string ⟨#[]⟩)), .c (.v (.int .i64 0)), .c (.v (.int .i64 0)), .c (.v (.slice none 0 0))]]⟩), (40, ⟨false, 24, 2, [[.row 24 2, .c (.v (.int .i64 0))]]⟩)] 400 ?_ ?_
 · simp only [rA_sc, rA_len, WeakF, used_is, sc_any, sc_c, sc_pp, sc_ref, sc_row, sc_agg, sc_fn, ScL, some_imp, List.forall_mem_map, go_sem, Int.reduceBEq, Int.reduceLE, Int.reduceLT, Int.reduceNeg, Nat.reduceAdd, Nat.reduceEqDiff, Nat.reduceLT, Nat.reduceLeDiff, Nat.reduceMul, Nat.reduceSub, reduceCtorEq, ↓reduceIte]
   exact ⟨.same _, .set (i := 0) (e' := w11a.cells.map .c) rfl (.cons (.same _) (.cons (.same _) (.cons (.nil 1) (.cons (.nil 9) (.cons (.nil 1) (.cons (.same _) (.cons (.same _) (.cons (.same _) (.cons (.same _) (.cons (.nil 1) .nil)))))))))) (cellish_map _), .same _⟩
 refine VC.frz [] [(1, .ref 40 1 0 0)] [(24, ⟨true, 33, 10, [w11a.cells.map .c, w11b.cells.map .c]⟩), (40, ⟨false, 24, 2, [[.row 24 2, .c (.v (.int .i64 0))]]⟩)] 400 ?_ ?_
 · simp only [rA_sc, rA_len, WeakF, used_is, sc_any, sc_c, sc_pp, sc_ref, sc_row, sc_agg, sc_fn, ScL, some_imp, List.forall_mem_map, go_sem, Int.reduceBEq, Int.reduceLE, Int.reduceLT, Int.reduceNeg, Nat.reduceAdd, Nat.reduceEqDiff, Nat.reduceLT, Nat.reduceLeDiff, Nat.reduceMul, Nat.reduceSub, reduceCtorEq, ↓reduceIte]
   exact ⟨.same _, .set (i := 1) (e' := w11b.cells.map .c) rfl (.cons (.same _) (.cons (.same _) (.cons (.nil 1) (.cons (.nil 9) (.cons (.nil 1) (.cons (.same _) (.cons (.same _) (.cons (.same _) (.cons (.same _) (.cons (.nil 1) .nil)))))))))) (cellish_map _), .same _⟩
 refine VC.frz [24] [(1, .ref 40 1 0 0)] [(40, ⟨false, 24, 2, [[.c (.sl 10 (w11.nodes.map NT.cells)), .c (.v (.int .i64 w11.root))]]⟩)] 400 ?_ ?_
 · simp only [rA_sc, rA_len, WeakF, used_is, sc_any, sc_c, sc_pp, sc_ref, sc_row, sc_agg, sc_fn, ScL, some_imp, List.forall_mem_map, go_sem, Int.reduceBEq, Int.reduceLE, Int.reduceLT, Int.reduceNeg, Nat.reduceAdd, Nat.reduceEqDiff, Nat.reduceLT, Nat.reduceLeDiff, Nat.reduceMul, Nat.reduceSub, reduceCtorEq, ↓reduceIte]
   exact ⟨.same _, .one (.cons (.row (B := ⟨true, 33, 10, [w11a.cells.map .c, w11b.cells.map .c]⟩) (es := w11.nodes.map NT.cells) (by simp) rfl rfl rfl rfl) (.cons (.same _) .nil)) (by simp [AV.cellish])⟩
 refine walkG ?_
 refine AO.stepJw rfl (J_mark _ _ _ _ 408 4 _ (bytePV [4, 6, 54, 0]) rfl tyA_40 rfl tyA_5 rfl (by trivial) rfl rfl rfl rfl (by decide) rfl) ?_
 refine walkC (hA) ?_
 refine walkG ?_
 refine AO.stepJw rfl (J_mark _ _ _ _ 480 1 _ (bytePV [0]) rfl tyA_40 rfl tyA_5 rfl (by trivial) rfl rfl rfl rfl (by decide) rfl) ?_
 refine walkC (hB) ?_
 refine walkGF (And.intro e4 (And.intro e0 e2)) ?_
 refine retX Tryz.results25 ?_
 exact .c _
theorem kreads_told (s : ST) (a : Int) (b : List UInt8) (p : Int) :
  Told Tryz.prog 6 [s.av, .c (.v (.int .i64 a)), .c (.sl 1 (bytePV b)), .c (.v (.int .i64 p))] (.c (.v (.bool true))) :=
 kreads_of works20_told s a b p

theorem arg_bytes {x : AV} (h : TyAV Tryz.prog 40 x) : ∃ l : List UInt8, x = .c (.sl 1 (bytePV l)) := by
 obtain ⟨ps, h1, h2⟩ := h
 obtain ⟨l, rfl⟩ := ty_bytes h1
 rcases h2 with ⟨⟨fs, h2⟩, _⟩ | ⟨_, q, h2, rfl⟩
 · simp [Tryz.underlying40] at h2
 · simp at h2
   subst h2
   exact ⟨l, rfl⟩
section

theorem gWords : Tryz.prog.globalNamed "avocet/naming.words" = some 0 := by kernel_rfl
theorem tWords : (Tryz.prog.globals[0]?).map (·.type) = some 186 := by kernel_rfl
theorem uWords : Tryz.prog.underlying 186 = some (.array 15 9) := by kernel_rfl
theorem cWords : Tryz.prog.cellsOf 9 = 1 := by kernel_rfl
theorem onlyWords : ((List.range Tryz.prog.globals.size).all fun g => g == 0 || (glob Tryz.prog g).isNone) = true := by kernel_rfl
theorem globWords : glob Tryz.prog 0 = some (kwords.map fun w => PV.v (.string (str w))) := by kernel_rfl
theorem words_cells {W : World} (h : laidMetH Tryz.prog [("avocet/naming.words", Rows.laid_avocet_naming_words)] W) :
  ∃ cs : Array Value, (∀ i, W.cell? ⟨0, i, none⟩ = cs[i]?) ∧ cs.size = 15 ∧ ∀ (i : Nat) (w : List UInt8), kwords[i]? = some w → cs[i]? = some (.string (str w)) := by
 rw [MakeChecks.laidMetH_plain _ _ _ (by kernel_rfl)] at h
 obtain ⟨ps, ⟨g0, t0, cs0, f0, p0, q0, hg0, ht0, hv0, hd0, _, _⟩, _, _⟩ := h
 obtain rfl := Option.some.inj (gWords.symm.trans hg0)
 obtain rfl := Option.some.inj (tWords.symm.trans ht0)
 obtain ⟨xs, m1, rfl, hx1, hlen, hn15, hel⟩ := DataW.trod_array uWords hd0
 simp only [Rows.laid_avocet_naming_words, Prod.mk.injEq, DataW.agg.injEq] at hx1
 have hx2 : kwords.map (fun w => (DataW.lit (.string w) : DataW Unit)) = xs.map (·.1) := hx1.1
 have hat : ∀ i, i < 15 → ∃ s : ByteArray, cs0[i]? = some (.string s) ∧ ∃ x, xs[i]? = some x ∧ x.1 = .lit (.string s.data.toList) := by
  intro i hi
  obtain ⟨x, hx⟩ : ∃ x, xs[i]? = some x := ⟨xs[i]'(by omega), List.getElem?_eq_getElem (by omega)⟩
  have h1 := hel i hi
  rw [hx] at h1
  obtain ⟨s, e1, e2, _⟩ := DataW.trod_string Tryz.underlying9 h1
  rw [cWords, Nat.mul_one] at e1
  refine ⟨s, ?_, x, hx, by rw [e2]⟩
  have h2 : (cs0.toList.drop i)[0]? = some (.string s) := by
   have h3 : ((cs0.toList.drop i).take 1)[0]? = some (.string s) := by rw [e1]; rfl
   rwa [List.getElem?_take_of_lt (by decide)] at h3
  rw [List.getElem?_drop, Nat.add_zero] at h2
  simpa using h2
 refine ⟨cs0, fun i => World.var?_cell hg0 hv0 i, ?_, fun i w hw => ?_⟩
 · have := hlen
   rw [show Tryz.prog.cellsOf 186 = 15 by kernel_rfl] at this
   simpa using this
 · have hi : i < 15 := (List.getElem?_eq_some_iff.1 hw).1
   obtain ⟨s, h1, x, h2, h3⟩ := hat i hi
   have h4 : (xs.map (·.1))[i]? = some (.lit (.string w)) := by rw [← hx2, List.getElem?_map, hw]; rfl
   rw [List.getElem?_map, h2] at h4
   have h5 : x.1 = .lit (.string w) := Option.some.inj h4
   rw [h3] at h5
   have h6 : s.data.toList = w := Lit.string.inj (DataW.lit.inj h5)
   have h7 : s = str w := by
    apply ByteArray.ext
    rw [← h6]
    show s.data = s.data.toList.toArray
    exact (Array.toArray_toList).symm
   rw [h1, h7]
theorem gok_words {W : World} (h : laidMetH Tryz.prog [("avocet/naming.words", Rows.laid_avocet_naming_words)] W) : GOk Tryz.prog W (fun k => k < W.heap.size) := by
 obtain ⟨cs, h1, h2, h3⟩ := words_cells h
 intro g cells hc
 have hg : g = 0 := by
  by_cases hlt : g < Tryz.prog.globals.size
  · have := List.all_eq_true.1 onlyWords g (List.mem_range.2 hlt)
    rw [hc] at this
    simpa using this
  · unfold glob at hc
    rw [Array.getElem?_eq_none (by omega)] at hc
    simp at hc
 subst hg
 rw [globWords] at hc
 obtain rfl := Option.some.inj hc
 refine ⟨?_, cs.toList, fun j hj => ?_, ⟨by simp [h2, kwords], fun j p v hp hv => ?_⟩⟩
 · have h4 := h1 0
   rw [h3 0 [] rfl] at h4
   by_cases hlt : 0 < W.heap.size
   · exact hlt
   · unfold World.cell? at h4
     simp only [] at h4
     rw [Array.getElem?_eq_none (by omega)] at h4
     simp at h4
 · rw [Nat.zero_add, h1 j]
   simp
 · rw [List.getElem?_map] at hp
   cases hw : kwords[j]? with
   | none => rw [hw] at hp; simp at hp
   | some w =>
     rw [hw] at hp
     obtain rfl := Option.some.inj hp
     have h5 := h3 j w hw
     rw [Array.getElem?_toList] at hv
     rw [h5] at hv
     obtain rfl := Option.some.inj hv
     exact .v rfl
section
variable {P : Program} {w : World}
theorem law_toldG (hg : GOk P w (fun k => k < w.heap.size)) {f : FuncId} {args : List AV} (hT : Told P f args (.c (.v (.bool true)))) {vs : List Value} (hl : vs.length = args.length) (hr : ∀ (j : Nat) (x : AV) (v : Value), args[j]? = some x → vs[j]? = some v → Rep w (fun b => b < w.heap.size) φ0 h0 x v) :
  Calls P f vs.toArray w fun e W' => e = .returned (.bool true) ∧ Below w.heap.size w W' := by
 refine (hT.2 w (fun k => k < w.heap.size) vs (fun _ h => h) hg ⟨hl, hr⟩).mono ?_
 rintro e W' ⟨v, ro', rfl, hb, _, _, hr, _⟩
 obtain rfl := rep_prim hr
 exact ⟨rfl, hb⟩
end
end
end
end Go.Proofs.YtepneflbhpidbaaGreatDoor
