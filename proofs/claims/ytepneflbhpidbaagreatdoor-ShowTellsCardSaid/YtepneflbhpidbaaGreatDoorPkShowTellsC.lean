/- Texts that lead to the law ShowTells, joined. -/
import Derived.Test.YtepneflbhpidbaaGreatDoorPkShowTellsB
import Derived.Test.YtepneflbhpidbaaGreatDoorPkShowTellsA
import Derived.Test.YtepneflbhpidbaaGreatDoorPkShowTellsXAbB
namespace Go.Proofs.YtepneflbhpidbaaGreatDoor
set_option maxRecDepth 100000
set_option maxHeartbeats 6400000
open Go.RowKit
set_option linter.unusedVariables false
set_option linter.unusedSimpArgs false
section
attribute [local go_sem] opx opE ev okx gcond bnd okO AV.get AV.okb cAV upd_at putd_some putd_none wrs_nil wrs_cons look_nil look_cons st argT_at bpick_and bpick_or bpick_true bpick_false binV binI binS binVOk binOk isShift binSOk unV unVOk loadV loadP cellsA zeroA Blkd.len setE grown moreA moreR moreOk eqRes pv fillA fillE putSeg AV.cellish AV.pureL AV.pureB lentL_is ex_some AV.ren AV.renL renL_c Blkd.ren rho wrM renN lentOk rhoE keepM endOk tyA_2 tyA_3 tyA_4 tyA_5 tyA_6 tyA_7 tyA_8 tyA_9 tyA_10 tyA_11 tyA_12 tyA_13 tyA_14 tyA_15 tyA_16 tyA_17 tyA_18 tyA_19 tyA_21 tyA_22 tyA_23 tyA_24 tyA_29 tyA_30 tyA_31 tyA_32 tyA_33 tyA_34 tyA_35 tyA_36 tyA_37 tyA_38 tyA_39 tyA_40 tyA_41 tyA_42 tyA_43 tyA_48 tyA_72 tyA_76 tyA_85 tyA_86 tyA_87 tyA_88 tyA_97 tyA_100 tyA_101 tyA_102 tyA_103 tyA_104 tyA_105 tyA_106 tyA_128 tyA_137 tyA_138 tyA_139 tyA_140 tyA_141 tyA_142 tyA_147 tyA_148 tyA_149 tyA_167 tyA_168 tyA_169 tyA_170 tyA_172 tyA_176 tyA_177 tyA_178 tyA_186 tyA_196 tyA_231 tyA_232 tyA_233 tyA_257 tyA_262 tyA_268 tyA_270 tyA_272 tyA_281 tyA_285 tyA_287 tyA_290 tyA_291 tyA_292 tyA_293 tyA_294 tyA_295 tyA_296 tyA_298 tyA_299 Option.map_some Option.map_none Option.getD_some Option.getD_none Option.bind_some Option.bind_none List.getElem?_cons_zero List.getElem?_cons_succ List.getElem?_nil List.getElem?_toArray List.length_cons List.length_nil List.length_map List.forall_mem_map List.map_cons List.map_nil List.drop_zero List.drop_succ_cons List.drop_nil List.take_zero List.take_succ_cons List.take_nil List.mem_cons List.not_mem_nil or_false forall_eq_or_imp forall_eq List.set_cons_zero List.set_cons_succ List.cons_append List.nil_append List.append_nil List.foldl_cons List.foldl_nil List.replicate_succ List.replicate_zero List.all_cons List.all_nil if_true if_false Bool.false_eq_true ne_eq not_false_eq_true not_true_eq_false true_and and_true and_self true_implies imp_self implies_true forall_const beq_self_eq_true Bool.and_true Bool.true_and Bool.and_false Bool.false_and Bool.or_true Bool.true_or Bool.or_false Bool.false_or Bool.not_true Bool.not_false Bool.not_eq_eq_eq_not intKindOf Value.oneCell' Int.toNat_natCast beq_true beq_false Bool.not_eq_true false_implies false_or true_or or_true Nat.zero_add Nat.add_zero decide_true decide_false Int.cast_ofNat_Int Int.toNat_zero Int.toNat_one eq_self

theorem ctree_told : ∀ (m : Nat) (t : JT), SizeOf.sizeOf t ≤ m → t.sm 1000000 → Told Tryz.prog 42 [t.av] t.av := by
 intro m
 induction m with
 | zero => intro t ht; cases t; simp at ht
 | succ m ih =>
 intro t ht hsm
 cases t with
 | mk k n s ks xs =>
 have hx : ∀ x ∈ xs, Told Tryz.prog 42 [x.av] x.av := fun x hxm => ih x (by have := List.sizeOf_lt_of_mem hxm; simp at ht; omega) (smL_mem hsm.2.2.2.2 x hxm)
 obtain ⟨hsl, hkl, hks, hxl, _⟩ := hsm
 clear ih ht
 have hK := cloneS_told ks hkl
 rw [JT.av_eq, cells_mk]
 by_cases hxe : xs = []
 · subst hxe
   have hI := cloneJ_told [] (by simp)
   have hKc := hK
   clear hK
   simp only [List.map_nil] at hI
   refine VC.toldP ent_42 Tryz.func42 rfl Tryz.ntmps42 fun hb => ?_
   clear hb
   refine walkG ?_
   refine walkC (hKc) ?_
   refine walkG ?_
   refine walkC (hI) ?_
   refine walkG ?_
   refine VC.loop (ι := Unit) (fun _ => [(1, .ref 0 1 0 0), (2, .ref 8 1 0 0), (14, .c (.v (.int .i64 0))), (15, .c (.v (.int .i64 0)))])
    (fun _ => [(0, ⟨false, 36, 5, [[.c (.v (.int .i64 k)), .c (.v (.int .i64 n)), .c (.v (.string (str s))), .c (.sl 5 []), .c (.sl 1 (ks.map sPV))]]⟩), (8, ⟨false, 36, 5, [[.c (.v (.int .i64 0)), .c (.v (.int .i64 0)), .c (.v (.string ⟨#[]⟩)), .c (.v (.slice none 0 0)), .c (.v (.slice none 0 0))]]⟩)]) 800 (fun _ => 0) () ?_ ?_
   · simp only [Weak, eq_self, used_is, sc_any, sc_c, sc_pp, sc_ref, sc_row, sc_agg, sc_fn, ScL, some_imp, List.forall_mem_map, go_sem, Int.reduceBEq, Int.reduceLE, Int.reduceLT, Int.reduceNeg, Nat.reduceAdd, Nat.reduceEqDiff, Nat.reduceLT, Nat.reduceLeDiff, Nat.reduceMul, Nat.reduceSub, reduceCtorEq, ↓reduceIte]
     try simp
   rintro ⟨⟩
   refine walkB ?_
   refine retX Tryz.results42 ?_
   exact Frz.cs _ [.v (.int .i64 k), .v (.int .i64 n), .v (.string (str s)), .sl 5 [], .sl 1 (ks.map sPV)]
 · have hI := cloneJ_toldM xs hxe hxl
   have hKc := hK
   clear hK
   refine VC.toldP ent_42 Tryz.func42 rfl Tryz.ntmps42 fun hb => ?_
   clear hb
   refine walkG ?_
   refine walkC (hKc) ?_
   refine walkG ?_
   refine walkL [] (hI) ?_
   refine walkGF (@rA_len) ?_
   refine VC.loop (ι := {i : Nat // i ≤ xs.length}) (fun q => [(1, .ref 0 1 0 0), (2, .ref 8 1 0 0), (14, .c (.v (.int .i64 (xs.length : Int)))), (15, .c (.v (.int .i64 (q.1 : Int))))])
    (fun _ => [(0, ⟨false, 36, 5, [[.c (.v (.int .i64 k)), .c (.v (.int .i64 n)), .c (.v (.string (str s))), .row 56 xs.length, .c (.sl 1 (ks.map sPV))]]⟩), (8, ⟨false, 36, 5, [[.c (.v (.int .i64 0)), .c (.v (.int .i64 0)), .c (.v (.string ⟨#[]⟩)), .c (.v (.slice none 0 0)), .c (.v (.slice none 0 0))]]⟩),
     (56, ⟨true, 36, 5, rA JT.cells xs⟩)]) 800 (fun q => xs.length - q.1) ⟨0, Nat.zero_le _⟩ ?_ ?_
   · simp only [rA_len, rA_sc, rA_ren, Weak, eq_self, used_is, sc_any, sc_c, sc_pp, sc_ref, sc_row, sc_agg, sc_fn, ScL, some_imp, List.forall_mem_map, go_sem, Int.reduceBEq, Int.reduceLE, Int.reduceLT, Int.reduceNeg, Nat.reduceAdd, Nat.reduceEqDiff, Nat.reduceLT, Nat.reduceLeDiff, Nat.reduceMul, Nat.reduceSub, reduceCtorEq, ↓reduceIte]
     try simp
   clear hI hKc
   rintro ⟨i, hi⟩
   simp only []
   refine walkG ?_
   refine VC.cond (by rfl) (by trivial) (fun hc => ?_) (fun hc => ?_)
   · have hlt : i < xs.length := by simp at hc; omega
     obtain ⟨x, hxi⟩ : ∃ x, xs[i]? = some x := ⟨xs[i], List.getElem?_eq_getElem hlt⟩
     have hxp : (rA JT.cells xs)[i]? = some (x.cells.map .c) := rA_at hxi
     have hw : IntKind.i64.wrap ((i : Int) + 1) = (i : Int) + 1 := wrap64_id (by omega) (by omega)
     have hT := hx x (List.mem_of_getElem? hxi)
     have hset : (rA JT.cells xs).set i (x.cells.map .c) = rA JT.cells xs := by
      rw [rA_set]
      congr 1
      obtain ⟨h1, rfl⟩ := List.getElem?_eq_some_iff.1 hxi
      exact List.set_getElem_self h1
     have hdr : (x.cells.map AV.c).drop 5 = [] := List.drop_eq_nil_of_le (by rw [List.length_map, len_cells]; exact Nat.le_refl _)
     simp only [JT.av_eq] at hT
     refine walkGF (And.intro @rA_len (And.intro hxp (And.intro @len_cells (And.intro @take_cells @take_cellsC)))) ?_
     refine walkCF (@pureL_c) (hT) ?_
     refine walkGF (And.intro @rA_len (And.intro hxp (And.intro @len_cells (And.intro @take_cells (And.intro @take_cellsC (And.intro hdr (And.intro hset hw))))))) ?_
     refine .next ⟨i + 1, by omega⟩ ?_ (by simp only []; omega)
     refine weakXF (And.intro @rA_len (And.intro @rA_sc (And.intro hdr hset))) ?_
     exact ⟨cI (by omega), Nat.le_refl _⟩
   · refine walkG ?_
     refine retX Tryz.results42 ?_
     exact Frz.aggL (.cons (.c _) (.cons (.c _) (.cons (.c _) (.cons (frz_rA (f := JT.cells) (l := xs) (T := 36) rfl rfl rfl fun x _ => len_cells x) (.cons (.c _) .nil)))))

theorem rA_self {α : Type} {f : α → List PV} {l : List α} {i : Nat} {x : α} (h : l[i]? = some x) : (rA f l).set i ((f x).map .c) = rA f l := by
 rw [rA_set]
 congr 1
 obtain ⟨h1, rfl⟩ := List.getElem?_eq_some_iff.1 h
 exact List.set_getElem_self h1
def nodeC (n : NT) (a : AV) : List AV := [.c (.v (.int .i64 n.kind)), .c (.v (.string (str n.name))), .c (.sl 1 (n.aliases.map sPV)), a, .c (.sl 1 (n.symbols.map sPV)), .c (.v (.bool n.has)), .c (.v (.string (str n.dflt))), .c (.v (.int .i64 n.size)), .c (.v (.int .i64 n.items)), .c (.sl 1 (n.branches.map iPV))]
def fieldC (f : FT) : List AV := .c (.v (.string (str f.name))) :: .c (.sl 1 (f.aliases.map sPV)) :: .c (.v (.int .i64 f.type)) :: .c (.v (.bool f.has)) :: f.dflt.cells.map .c
theorem set_at {α : Type} {l : List α} {i : Nat} (h : i < l.length) (x : α) : (l.set i x)[i]? = some x := by rw [List.getElem?_set, if_pos rfl, if_pos h]
theorem sCopy_told (s : ST) (hsm : s.sm 1000000) : Told Tryz.prog 10 [s.av] s.av := by
 obtain ⟨hl, hs⟩ := hsm
 rw [ST.av_eq, scells_mk]
 by_cases hxe : s.nodes = []
 · have hI := cloneN_told [] (by simp)
   simp only [List.map_nil] at hI
   rw [hxe, List.map_nil]
   refine VC.toldP ent_10 Tryz.func10 rfl Tryz.ntmps10 fun hb => ?_
   clear hb
   refine walkG ?_
   refine walkC (hI) ?_
   refine walkG ?_
   refine VC.loop (ι := Unit) (fun _ => [(2, .ref 8 1 0 0), (3, .ref 64 1 0 0), (16, .c (.v (.int .i64 0))), (17, .c (.v (.int .i64 0)))])
    (fun _ => [(8, ⟨false, 24, 2, [[.c (.v (.slice none 0 0)), .c (.v (.int .i64 0))]]⟩), (64, ⟨false, 24, 2, [[.c (.sl 10 []), .c (.v (.int .i64 s.root))]]⟩)]) 800 (fun _ => 0) () ?_ ?_
   · simp only [Weak, eq_self, used_is, sc_any, sc_c, sc_pp, sc_ref, sc_row, sc_agg, sc_fn, ScL, some_imp, List.forall_mem_map, go_sem, Int.reduceBEq, Int.reduceLE, Int.reduceLT, Int.reduceNeg, Nat.reduceAdd, Nat.reduceEqDiff, Nat.reduceLT, Nat.reduceLeDiff, Nat.reduceMul, Nat.reduceSub, reduceCtorEq, ↓reduceIte]
     try simp
   rintro ⟨⟩
   refine walkB ?_
   refine retX Tryz.results10 ?_
   exact Frz.cs _ [.sl 10 [], .v (.int .i64 s.root)]
 · have hI := cloneN_toldM s.nodes hxe hl
   refine VC.toldP ent_10 Tryz.func10 rfl Tryz.ntmps10 fun hb => ?_
   clear hb
   refine walkG ?_
   refine walkL [] (hI) ?_
   refine walkGF (@rA_len) ?_
   clear hI
   refine VC.loop (ι := {i : Nat // i ≤ s.nodes.length}) (fun q => [(2, .ref 8 1 0 0), (3, .ref 64 1 0 0), (16, .c (.v (.int .i64 (s.nodes.length : Int)))), (17, .c (.v (.int .i64 (q.1 : Int))))])
    (fun _ => [(8, ⟨false, 24, 2, [[.c (.v (.slice none 0 0)), .c (.v (.int .i64 0))]]⟩), (64, ⟨false, 24, 2, [[.row 32 s.nodes.length, .c (.v (.int .i64 s.root))]]⟩),
     (32, ⟨true, 33, 10, rA NT.cells s.nodes⟩)]) 800 (fun q => s.nodes.length - q.1) ⟨0, Nat.zero_le _⟩ ?_ ?_
   · simp only [rA_len, rA_sc, rA_ren, Weak, eq_self, used_is, sc_any, sc_c, sc_pp, sc_ref, sc_row, sc_agg, sc_fn, ScL, some_imp, List.forall_mem_map, go_sem, Int.reduceBEq, Int.reduceLE, Int.reduceLT, Int.reduceNeg, Nat.reduceAdd, Nat.reduceEqDiff, Nat.reduceLT, Nat.reduceLeDiff, Nat.reduceMul, Nat.reduceSub, reduceCtorEq, ↓reduceIte]
     try simp
   rintro ⟨i, hi⟩
   simp only []
   refine walkG ?_
   refine VC.cond (by rfl) (by trivial) (fun hc => ?_) (fun hc => ?_)
   · have hlt : i < s.nodes.length := by simp at hc; omega
     obtain ⟨n, hn⟩ : ∃ n, s.nodes[i]? = some n := ⟨s.nodes[i], List.getElem?_eq_getElem hlt⟩
     have hxp : (rA NT.cells s.nodes)[i]? = some (nodeC n (.c (.sl 9 (n.fields.map FT.cells)))) := rA_at hn
     have hself : (rA NT.cells s.nodes).set i (nodeC n (.c (.sl 9 (n.fields.map FT.cells)))) = rA NT.cells s.nodes := rA_self hn
     have hw : IntKind.i64.wrap ((i : Int) + 1) = (i : Int) + 1 := wrap64_id (by omega) (by omega)
     have hns := hs n (List.mem_of_getElem? hn)
     obtain ⟨_, _, ⟨ha1, ha2⟩, ⟨hy1, hy2⟩, hb1, hf1, hf2⟩ := hns
     have hA := cloneS_told n.aliases ha1
     have hS := cloneS_told n.symbols hy1
     have hB := cloneI_told n.branches hb1
     simp only [nodeC] at hxp hself
     by_cases hfe : n.fields = []
     · have hF := cloneF_told [] (by simp)
       simp only [List.map_nil] at hF
       rw [hfe, List.map_nil] at hxp hself
       refine walkGF (And.intro @rA_len hxp) ?_
       refine walkC (hA) ?_
       refine walkGF (And.intro @rA_len hxp) ?_
       refine walkC (hF) ?_
       refine walkGF (And.intro @rA_len hxp) ?_
       refine walkC (hS) ?_
       refine walkGF (And.intro @rA_len hxp) ?_
       refine walkC (hB) ?_
       refine walkGF (And.intro @rA_len (And.intro hxp hself)) ?_
       refine VC.loop (ι := Unit) (fun _ => [(2, .ref 8 1 0 0), (3, .ref 64 1 0 0), (16, .c (.v (.int .i64 (s.nodes.length : Int)))), (17, .c (.v (.int .i64 (i : Int)))), (60, .c (.v (.int .i64 0))), (61, .c (.v (.int .i64 0)))])
        (fun _ => [(8, ⟨false, 24, 2, [[.c (.v (.slice none 0 0)), .c (.v (.int .i64 0))]]⟩), (64, ⟨false, 24, 2, [[.row 32 s.nodes.length, .c (.v (.int .i64 s.root))]]⟩),
         (32, ⟨true, 33, 10, rA NT.cells s.nodes⟩)]) 2000 (fun _ => 0) () ?_ ?_
       · refine weakXF (And.intro @rA_len @rA_sc) ?_
         exact Nat.le_refl _
       rintro ⟨⟩
       refine walkBF (hw) ?_
       refine .next ⟨i + 1, by omega⟩ ?_ (by simp only []; omega)
       refine weakXF (And.intro @rA_len @rA_sc) ?_
       exact ⟨cI (by omega), Nat.le_refl _⟩
     · have hF := cloneF_toldM n.fields hfe hf1
       have hlen : ((rA NT.cells s.nodes).set i (nodeC n (.row 968 n.fields.length))).length = s.nodes.length := by rw [List.length_set, rA_len]
       have hat : ((rA NT.cells s.nodes).set i (nodeC n (.row 968 n.fields.length)))[i]? = some (nodeC n (.row 968 n.fields.length)) := set_at (by rw [rA_len]; exact hlt) _
       simp only [nodeC] at hlen hat
       refine walkGF (And.intro @rA_len hxp) ?_
       refine walkC (hA) ?_
       refine walkGF (And.intro @rA_len hxp) ?_
       refine walkL [] (hF) ?_
       refine walkGF (And.intro @rA_len hxp) ?_
       refine walkC (hS) ?_
       refine walkGF (And.intro @rA_len hxp) ?_
       refine walkC (hB) ?_
       (repeat (first | refine pass ?_ | refine VC.region (by rfl) (by rfl) ?_ | (refine AO.step fun K hK => ?_; simp only [rA_len, hxp, hself, hlen, hat, List.set_set, go_sem, Int.reduceBEq, Int.reduceLE, Int.reduceLT, Int.reduceNeg, Nat.reduceAdd, Nat.reduceEqDiff, Nat.reduceLT, Nat.reduceLeDiff, Nat.reduceMul, Nat.reduceSub, reduceCtorEq, ↓reduceIte]; (first | refine gsel_skip ?_ | refine gsel_go ?_ | skip); (first | refine hK _ _ _ ?_ | refine ⟨by first | omega | exact ⟨_, rfl, rfl⟩ | exact fun _ => ⟨_, rfl, rfl⟩ | (intro h; simp only [rA_len, hxp, hself, hlen, hat, List.set_set, h, true_and]; omega) | (clear hK; intro h; simp_all <;> omega), hK _ _ _ ?_⟩); clear hK K) | refine VC.draw mixP (by rfl) (by rfl) ?_ | refine ⟨okd_of (by kernel_rfl), ?_⟩ | refine BQ.other (by decide) ?_ | refine VC.seq ?_ | refine AO.nil ?_ | refine VC.block ?_))
       have hscs : ∀ {used : Nat → Prop} {h : Nat → Option Blkd}, used 968 → (∀ B, h 968 = some B → n.fields.length ≤ B.len) → ∀ e ∈ (rA NT.cells s.nodes).set i (nodeC n (.row 968 n.fields.length)), ∀ x ∈ e, Sc used h x := by
        intro used h hu hB e he x hx
        rcases List.mem_or_eq_of_mem_set he with h1 | h1
        · exact (rA_sc NT.cells s.nodes).mpr trivial e h1 x hx
        · subst h1
          simp only [nodeC, List.mem_cons, List.not_mem_nil, or_false] at hx
          rcases hx with rfl | rfl | rfl | rfl | rfl | rfl | rfl | rfl | rfl | rfl <;> first | exact .c | exact .row hu hB
       simp only [nodeC] at hscs
       clear hA hS hB hF
       refine VC.loop (ι := {k : Nat // k ≤ n.fields.length}) (fun q => [(2, .ref 8 1 0 0), (3, .ref 64 1 0 0), (5, .ref 32 s.nodes.length i 0), (16, .c (.v (.int .i64 (s.nodes.length : Int)))), (17, .c (.v (.int .i64 (i : Int)))), (60, .c (.v (.int .i64 (n.fields.length : Int)))), (61, .c (.v (.int .i64 (q.1 : Int))))])
        (fun _ => [(8, ⟨false, 24, 2, [[.c (.v (.slice none 0 0)), .c (.v (.int .i64 0))]]⟩), (64, ⟨false, 24, 2, [[.row 32 s.nodes.length, .c (.v (.int .i64 s.root))]]⟩),
         (32, ⟨true, 33, 10, (rA NT.cells s.nodes).set i [.c (.v (.int .i64 n.kind)), .c (.v (.string (str n.name))), .c (.sl 1 (n.aliases.map sPV)), .row 968 n.fields.length, .c (.sl 1 (n.symbols.map sPV)), .c (.v (.bool n.has)), .c (.v (.string (str n.dflt))), .c (.v (.int .i64 n.size)), .c (.v (.int .i64 n.items)), .c (.sl 1 (n.branches.map iPV))]⟩),
         (968, ⟨true, 38, 9, rA FT.cells n.fields⟩)]) 2000 (fun q => n.fields.length - q.1) ⟨0, Nat.zero_le _⟩ ?_ ?_
       · simp only [rA_len, rA_sc, rA_ren, List.set_set, hlen, Weak, eq_self, used_is, sc_any, sc_c, sc_pp, sc_ref, sc_row, sc_agg, sc_fn, ScL, some_imp, List.forall_mem_map, go_sem, Int.reduceBEq, Int.reduceLE, Int.reduceLT, Int.reduceNeg, Nat.reduceAdd, Nat.reduceEqDiff, Nat.reduceLT, Nat.reduceLeDiff, Nat.reduceMul, Nat.reduceSub, reduceCtorEq, ↓reduceIte]
         refine ⟨Nat.le_refl _, Nat.le_refl _, hscs (.inl (by omega)) fun B hB => ?_⟩
         obtain rfl := Option.some.inj hB
         exact Nat.le_of_eq (rA_len _ _).symm
       rintro ⟨k, hk⟩
       simp only []
       refine walkGF (hlen) ?_
       refine VC.cond (by rfl) (by trivial) (fun hc2 => ?_) (fun hc2 => ?_)
       · have hkl : k < n.fields.length := by simp at hc2; omega
         obtain ⟨f, hf⟩ : ∃ f, n.fields[k]? = some f := ⟨n.fields[k], List.getElem?_eq_getElem hkl⟩
         have hfp : (rA FT.cells n.fields)[k]? = some (fieldC f) := rA_at hf
         have hfself : (rA FT.cells n.fields).set k (fieldC f) = rA FT.cells n.fields := rA_self hf
         have hwk : IntKind.i64.wrap ((k : Int) + 1) = (k : Int) + 1 := wrap64_id (by omega) (by omega)
         obtain ⟨_, hfa1, _, hfd⟩ := hf2 f (List.mem_of_getElem? hf)
         have hA := cloneS_told f.aliases hfa1
         have hT := ctree_told _ f.dflt (Nat.le_refl _) hfd
         have hdr : (f.dflt.cells.map AV.c).drop 5 = [] := List.drop_eq_nil_of_le (by rw [List.length_map, len_cells]; exact Nat.le_refl _)
         simp only [fieldC] at hfp hfself
         simp only [JT.av_eq] at hT
         refine walkGF (And.intro hlen (And.intro hat (And.intro @rA_len hfp))) ?_
         refine walkC (hA) ?_
         refine walkGF (And.intro hlen (And.intro hat (And.intro @rA_len (And.intro hfp (And.intro @len_cells (And.intro @take_cells @take_cellsC)))))) ?_
         refine walkCF (@pureL_c) (hT) ?_
         refine walkGF (And.intro hlen (And.intro hat (And.intro @rA_len (And.intro hfp (And.intro @len_cells (And.intro @take_cells (And.intro @take_cellsC (And.intro hdr (And.intro hfself hwk))))))))) ?_
         refine .next ⟨k + 1, by omega⟩ ?_ (by simp only []; omega)
         refine weakXF (And.intro @rA_len (And.intro @rA_sc hlen)) ?_
         refine ⟨cI (by omega), Nat.le_refl _, Nat.le_refl _, hscs (.inl (by omega)) fun B hB => ?_⟩
         obtain rfl := Option.some.inj hB
         exact Nat.le_of_eq (rA_len _ _).symm
       · refine VC.frz [968] [(2, .ref 8 1 0 0), (3, .ref 64 1 0 0), (16, .c (.v (.int .i64 (s.nodes.length : Int)))), (17, .c (.v (.int .i64 (i : Int))))]
          [(8, ⟨false, 24, 2, [[.c (.v (.slice none 0 0)), .c (.v (.int .i64 0))]]⟩), (64, ⟨false, 24, 2, [[.row 32 s.nodes.length, .c (.v (.int .i64 s.root))]]⟩), (32, ⟨true, 33, 10, rA NT.cells s.nodes⟩)] 4000 ?_ ?_
         · simp only [rA_len, rA_sc, WeakF, used_is, sc_any, sc_c, sc_pp, sc_ref, sc_row, sc_agg, sc_fn, ScL, some_imp, List.forall_mem_map, go_sem, Int.reduceBEq, Int.reduceLE, Int.reduceLT, Int.reduceNeg, Nat.reduceAdd, Nat.reduceEqDiff, Nat.reduceLT, Nat.reduceLeDiff, Nat.reduceMul, Nat.reduceSub, reduceCtorEq, ↓reduceIte]
           refine ⟨⟨.same _, .same _, .same _, .same _⟩, ⟨.same _, .same _, ?_⟩, Nat.le_refl _⟩
           have hfb := FB.set (F := [968]) (h := look none [(8, some ⟨false, 24, 2, [[.c (.v (.slice none 0 0)), .c (.v (.int .i64 0))]]⟩), (64, some ⟨false, 24, 2, [[.row 32 s.nodes.length, .c (.v (.int .i64 s.root))]]⟩),
            (32, some ⟨true, 33, 10, (rA NT.cells s.nodes).set i [.c (.v (.int .i64 n.kind)), .c (.v (.string (str n.name))), .c (.sl 1 (n.aliases.map sPV)), .row 968 n.fields.length, .c (.sl 1 (n.symbols.map sPV)), .c (.v (.bool n.has)), .c (.v (.string (str n.dflt))), .c (.v (.int .i64 n.size)), .c (.v (.int .i64 n.items)), .c (.sl 1 (n.branches.map iPV))]⟩),
            (968, some ⟨true, 38, 9, rA FT.cells n.fields⟩)]) (row := true) (T := 33) (z := 10) hat
            (e' := [.c (.v (.int .i64 n.kind)), .c (.v (.string (str n.name))), .c (.sl 1 (n.aliases.map sPV)), .c (.sl 9 (n.fields.map FT.cells)), .c (.sl 1 (n.symbols.map sPV)), .c (.v (.bool n.has)), .c (.v (.string (str n.dflt))), .c (.v (.int .i64 n.size)), .c (.v (.int .i64 n.items)), .c (.sl 1 (n.branches.map iPV))])
            (.cons (.same _) (.cons (.same _) (.cons (.same _) (.cons (.row (B := ⟨true, 38, 9, rA FT.cells n.fields⟩) (es := n.fields.map FT.cells) (by simp) rfl rfl (rA_len _ _) (rA_pv _ _)) (FVL.same _ _ _))))) (by simp [AV.cellish])
           rw [List.set_set, hself] at hfb
           exact hfb
         refine walkGF (hw) ?_
         refine .next ⟨i + 1, by omega⟩ ?_ (by simp only []; omega)
         refine weakXF (And.intro @rA_len @rA_sc) ?_
         exact ⟨cI (by omega), Nat.le_refl _⟩
   · refine walkG ?_
     refine retX Tryz.results10 ?_
     exact Frz.aggL (.cons (frz_rA (f := NT.cells) (l := s.nodes) (T := 33) rfl rfl rfl fun x _ => len_ncells x) (.cons (.c _) .nil))

theorem stext_told (s : List UInt8) : Told Tryz.prog 82 [.c (.v (.string (str s)))] (textJ s).av := by
 rw [textJ, JT.av_eq, cells_mk]
 refine VC.toldP ent_82 Tryz.func82 rfl Tryz.ntmps82 fun hb => ?_
 clear hb
 refine walkG ?_
 refine retX Tryz.results82 ?_
 exact Frz.aggL (.cons (.c _) (.cons (.c _) (.cons (.c _) (.cons (.nil 5) (.cons (.nil 1) .nil)))))
theorem slist_nil : Told Tryz.prog 86 [.c (.v (.slice none 0 0))] (.agg [.c (.v (.int .i64 5)), .c (.v (.int .i64 0)), .c (.v (.string ⟨#[]⟩)), .c (.v (.slice none 0 0)), .c (.v (.slice none 0 0))]) := by
 refine VC.toldP ent_86 Tryz.func86 rfl Tryz.ntmps86 fun hb => ?_
 clear hb
 refine walkG ?_
 refine retX Tryz.results86 ?_
 exact Frz.cs _ [.v (.int .i64 5), .v (.int .i64 0), .v (.string ⟨#[]⟩), .v (.slice none 0 0), .v (.slice none 0 0)]
def ovJ (n : Nat) : Blkd := ⟨false, 36, 5, [[.c (.v (.int .i64 6)), .c (.v (.int .i64 0)), .c (.v (.string ⟨#[]⟩)), .row 1000003 n, .row 1000002 n]]⟩
def ovC : Blkd := ⟨false, 128, 1, [[.ref 1000001 1 0 0]]⟩
def ovK (l : List (List UInt8)) : Blkd := ⟨true, 9, 1, rA sPV l⟩
def ovI (l : List JT) : Blkd := ⟨true, 36, 5, rA JT.cells l⟩
def putF : Fn := .func 143
theorem sobj_told : ToldM Tryz.prog 87 [] [] [some ovC, some (ovJ 0), some (ovK []), some (ovI [])] (.tup [.ref 1000001 1 0 0, .fn putF [] [.ref 1000000 1 0 0]]) := by
 unfold ovC ovJ ovK ovI putF
 refine VC.toldXF (@rA_nil) ent_87 [32, 24, 48, 56] Tryz.func87 rfl Tryz.ntmps87 fun hb hbL => ?_
 clear hb hbL
 (refine VC.seq ?_; (first | refine VC.region (by rfl) (by rfl) ?_ | refine VC.draw mixP (by rfl) (by rfl) ?_); (repeat (refine AO.step fun K hK => ?_; simp only [go_sem, Int.reduceBEq, Int.reduceLE, Int.reduceLT, Int.reduceNeg, Nat.reduceAdd, Nat.reduceEqDiff, Nat.reduceLT, Nat.reduceLeDiff, Nat.reduceMul, Nat.reduceSub, reduceCtorEq, ↓reduceIte]; (first | refine gsel_skip ?_ | refine gsel_go ?_ | skip); (first | refine hK _ _ _ ?_ | refine ⟨by first | omega | exact ⟨_, rfl, rfl⟩ | exact fun _ => ⟨_, rfl, rfl⟩ | (intro h; simp only [h, true_and]; omega) | (clear hK; intro h; simp_all <;> omega), hK _ _ _ ?_⟩); clear hK K)); refine AO.nil ?_; first | refine SQ.normal ?_ | refine ⟨okd_of (by kernel_rfl), SQ.normal ?_⟩)
 (refine VC.seq ?_; (first | refine VC.region (by rfl) (by rfl) ?_ | refine VC.draw mixP (by rfl) (by rfl) ?_); (repeat (refine AO.step fun K hK => ?_; simp only [go_sem, Int.reduceBEq, Int.reduceLE, Int.reduceLT, Int.reduceNeg, Nat.reduceAdd, Nat.reduceEqDiff, Nat.reduceLT, Nat.reduceLeDiff, Nat.reduceMul, Nat.reduceSub, reduceCtorEq, ↓reduceIte]; (first | refine gsel_skip ?_ | refine gsel_go ?_ | skip); (first | refine hK _ _ _ ?_ | refine ⟨by first | omega | exact ⟨_, rfl, rfl⟩ | exact fun _ => ⟨_, rfl, rfl⟩ | (intro h; simp only [h, true_and]; omega) | (clear hK; intro h; simp_all <;> omega), hK _ _ _ ?_⟩); clear hK K)); refine AO.nil ?_; first | refine SQ.normal ?_ | refine ⟨okd_of (by kernel_rfl), SQ.normal ?_⟩)
 refine VC.nilH 24 4 9 1 ⟨false, 36, 5, [[.c (.v (.int .i64 6)), .c (.v (.int .i64 0)), .c (.v (.string ⟨#[]⟩)), .c (.v (.slice none 0 0)), .c (.v (.slice none 0 0))]]⟩ [.c (.v (.int .i64 6)), .c (.v (.int .i64 0)), .c (.v (.string ⟨#[]⟩)), .c (.v (.slice none 0 0)), .c (.v (.slice none 0 0))] rfl rfl rfl rfl (by rfl) ?_
 refine VC.nilH 24 3 36 5 ⟨false, 36, 5, [[.c (.v (.int .i64 6)), .c (.v (.int .i64 0)), .c (.v (.string ⟨#[]⟩)), .c (.v (.slice none 0 0)), .row 48 0]]⟩ [.c (.v (.int .i64 6)), .c (.v (.int .i64 0)), .c (.v (.string ⟨#[]⟩)), .c (.v (.slice none 0 0)), .row 48 0] rfl rfl rfl rfl (by rfl) ?_
 refine walkG ?_
 refine retXF (@rA_nil) Tryz.results87 ?_
 exact ⟨.keepR rfl, Frz.fnL .nil (.cons (.keepR rfl) .nil)⟩
theorem sput_told (l : List (List UInt8 × JT)) (hl : l.length ≤ 1000000) (b : Bool) (k : List UInt8) (x : JT) :
  ToldM Tryz.prog 143 [.c (.v (.bool b)), .c (.v (.string (str k))), x.av, .ref 1000000 1 0 0] [ovC, ovJ l.length, ovK (l.map Prod.fst), ovI (l.map Prod.snd)]
   [some ovC, some (ovJ (putO l b k x).length), some (ovK ((putO l b k x).map Prod.fst)), some (ovI ((putO l b k x).map Prod.snd))] (.tup []) := by
 obtain ⟨ks, hks⟩ : ∃ ks, ks = l.map Prod.fst := ⟨_, rfl⟩
 obtain ⟨xs, hxs⟩ : ∃ xs, xs = l.map Prod.snd := ⟨_, rfl⟩
 obtain ⟨n, hn⟩ : ∃ n, n = l.length := ⟨_, rfl⟩
 have hkl : ks.length = n := by rw [hks, hn]; simp
 have hxl : xs.length = n := by rw [hxs, hn]; simp
 rw [JT.av_eq]
 cases b with
 | false =>
   rw [putO_false, ← hks, ← hxs, ← hn]
   clear hks hxs
   unfold ovC ovJ ovK ovI
   refine VC.toldXF (And.intro @rA_len (And.intro @rA_sc (And.intro hkl hxl))) ent_143 [] Tryz.func143 rfl Tryz.ntmps143 fun hb hbL => ?_
   clear hb hbL
   refine walkBF (And.intro @len_cells (And.intro @take_cells (And.intro @take_cellsC (And.intro @rA_len (And.intro hkl hxl))))) ?_
   exact retZF (And.intro @rA_ren (And.intro @rA_len (And.intro hkl hxl))) Tryz.results143
 | true =>
   have e1 : (putO l true k x).map Prod.fst = ks ++ [k] := by rw [putO_true, List.map_append, hks]; rfl
   have e2 : (putO l true k x).map Prod.snd = xs ++ [x] := by rw [putO_true, List.map_append, hxs]; rfl
   have e3 : (putO l true k x).length = n + 1 := by rw [putO_true, hn]; simp
   rw [e1, e2, e3, ← hks, ← hxs, ← hn]
   clear hks hxs e1 e2 e3
   have a1 : rA sPV ks ++ [[.c (.v (.string (str k)))]] = rA sPV (ks ++ [k]) := by simp [rA, sPV]
   have a2 : rA JT.cells xs ++ [x.cells.map .c] = rA JT.cells (xs ++ [x]) := by simp [rA]
   have hkl2 : (ks ++ [k]).length = n + 1 := by simp [hkl]
   have hxl2 : (xs ++ [x]).length = n + 1 := by simp [hxl]
   unfold ovC ovJ ovK ovI
   refine VC.toldXF (And.intro @rA_len (And.intro @rA_sc (And.intro hkl (And.intro hxl (And.intro hkl2 hxl2))))) ent_143 [] Tryz.func143 rfl Tryz.ntmps143 fun hb hbL => ?_
   clear hb hbL
   refine walkBF (And.intro @len_cells (And.intro @take_cells (And.intro @take_cellsC (And.intro @rA_len (And.intro hkl (And.intro hxl (And.intro a1 (And.intro a2 (And.intro hkl2 hxl2))))))))) ?_
   exact retZF (And.intro @rA_ren (And.intro @rA_len (And.intro hkl (And.intro hxl (And.intro hkl2 hxl2))))) Tryz.results143

theorem texts_next {l : List (List UInt8)} {i : Nat} {s : List UInt8} (h : l[i]? = some s) : rA JT.cells ((l.take i).map textJ) ++ [(textJ s).cells.map .c] = rA JT.cells ((l.take (i + 1)).map textJ) := by
 rw [List.take_add_one, h]
 simp [rA]
theorem stexts_told (l : List (List UInt8)) (hl : l.length ≤ 1000000) : Told Tryz.prog 141 [.c (.sl 1 (l.map sPV))] (textsJ l).av := by
 have hN := slist_nil
 rw [textsJ, listJ, JT.av_eq, cells_mk]
 refine VC.toldP ent_141 Tryz.func141 rfl Tryz.ntmps141 fun hb => ?_
 clear hb
 refine walkG ?_
 refine walkC (hN) ?_
 refine walkG ?_
 refine VC.nilH 16 3 36 5 ⟨false, 36, 5, [[.c (.v (.int .i64 5)), .c (.v (.int .i64 0)), .c (.v (.string ⟨#[]⟩)), .c (.v (.slice none 0 0)), .c (.v (.slice none 0 0))]]⟩ [.c (.v (.int .i64 5)), .c (.v (.int .i64 0)), .c (.v (.string ⟨#[]⟩)), .c (.v (.slice none 0 0)), .c (.v (.slice none 0 0))] rfl rfl rfl rfl (by rfl) ?_
 refine VC.loop (ι := {i : Nat // i ≤ l.length}) (fun q => [(2, .ref 0 1 0 0), (3, .ref 16 1 0 0), (7, .c (.sl 1 (l.map sPV))), (8, .c (.v (.int .i64 (l.length : Int)))), (9, .c (.v (.int .i64 (q.1 : Int))))])
  (fun q => [(0, ⟨false, 36, 5, [[.c (.v (.int .i64 0)), .c (.v (.int .i64 0)), .c (.v (.string ⟨#[]⟩)), .c (.v (.slice none 0 0)), .c (.v (.slice none 0 0))]]⟩),
   (16, ⟨false, 36, 5, [[.c (.v (.int .i64 5)), .c (.v (.int .i64 0)), .c (.v (.string ⟨#[]⟩)), .row 56 q.1, .c (.v (.slice none 0 0))]]⟩), (56, ⟨true, 36, 5, rA JT.cells ((l.take q.1).map textJ)⟩)]) 800 (fun q => l.length - q.1) ⟨0, Nat.zero_le _⟩ ?_ ?_
 · simp only [rA_nil, rA_len, rA_sc, Weak, eq_self, used_is, sc_any, sc_c, sc_pp, sc_ref, sc_row, sc_agg, sc_fn, ScL, some_imp, List.forall_mem_map, go_sem, Int.reduceBEq, Int.reduceLE, Int.reduceLT, Int.reduceNeg, Nat.reduceAdd, Nat.reduceEqDiff, Nat.reduceLT, Nat.reduceLeDiff, Nat.reduceMul, Nat.reduceSub, reduceCtorEq, ↓reduceIte]
   try simp
 clear hN
 rintro ⟨i, hi⟩
 simp only []
 have hti : ((l.take i).map textJ).length = i := by simp; omega
 refine walkG ?_
 refine VC.cond (by rfl) (by trivial) (fun hc => ?_) (fun hc => ?_)
 · have hlt : i < l.length := by simp at hc; omega
   obtain ⟨s, hs⟩ : ∃ s, l[i]? = some s := ⟨l[i], List.getElem?_eq_getElem hlt⟩
   have hsp : (l.map sPV)[i]? = some [.v (.string (str s))] := by rw [List.getElem?_map, hs]; rfl
   have hw : IntKind.i64.wrap ((i : Int) + 1) = (i : Int) + 1 := wrap64_id (by omega) (by omega)
   have hT := stext_told s
   have hap := texts_next hs
   have hti2 : ((l.take (i + 1)).map textJ).length = i + 1 := by simp; omega
   simp only [JT.av_eq] at hT
   generalize textJ s = x at hT hap
   refine walkGF (And.intro hsp (And.intro @rA_len hti)) ?_
   refine walkC (hT) ?_
   refine walkGF (And.intro @rA_len (And.intro hti (And.intro @len_cells (And.intro @take_cells (And.intro @take_cellsC (And.intro hap hw)))))) ?_
   refine .next ⟨i + 1, by omega⟩ ?_ (by simp only []; omega)
   simp only [rA_len, rA_sc, hti2, Weak, eq_self, used_is, sc_any, sc_c, sc_pp, sc_ref, sc_row, sc_agg, sc_fn, ScL, some_imp, List.forall_mem_map, go_sem, Int.reduceBEq, Int.reduceLE, Int.reduceLT, Int.reduceNeg, Nat.reduceAdd, Nat.reduceEqDiff, Nat.reduceLT, Nat.reduceLeDiff, Nat.reduceMul, Nat.reduceSub, reduceCtorEq, ↓reduceIte]
   try exact ⟨cI (by omega), Nat.le_refl _⟩
 · have hie : i = l.length := by simp at hc; omega
   refine walkGF (And.intro @rA_len hti) ?_
   refine retX Tryz.results141 ?_
   rw [hie, List.take_length] at *
   exact Frz.aggL (.cons (.c _) (.cons (.c _) (.cons (.c _) (.cons (frz_rA (f := JT.cells) (l := l.map textJ) (T := 36) rfl (by rw [List.length_map]) rfl fun x _ => len_cells x) (.cons (.nil 1) .nil)))))
theorem rtext17_told (s : List UInt8) : Told Tryz.prog 94 [.c (.v (.string (str s)))] (textJ s).av := by
 rw [textJ, JT.av_eq, cells_mk]
 refine VC.toldP ent_94 Tryz.func94 rfl Tryz.ntmps94 fun hb => ?_
 clear hb
 refine walkG ?_
 refine retX Tryz.results94 ?_
 exact Frz.aggL (.cons (.c _) (.cons (.c _) (.cons (.c _) (.cons (.nil 5) (.cons (.nil 1) .nil)))))
theorem rtexts17_told (l : List (List UInt8)) (hl : l.length ≤ 1000000) : Told Tryz.prog 98 [.c (.sl 1 (l.map sPV))] (textsJ l).av := by
 rw [textsJ, listJ, JT.av_eq, cells_mk]
 refine VC.toldP ent_98 Tryz.func98 rfl Tryz.ntmps98 fun hb => ?_
 clear hb
 refine walkG ?_
 refine VC.nilH 16 3 36 5 ⟨false, 36, 5, [[.c (.v (.int .i64 5)), .c (.v (.int .i64 0)), .c (.v (.string ⟨#[]⟩)), .c (.v (.slice none 0 0)), .c (.v (.slice none 0 0))]]⟩ [.c (.v (.int .i64 5)), .c (.v (.int .i64 0)), .c (.v (.string ⟨#[]⟩)), .c (.v (.slice none 0 0)), .c (.v (.slice none 0 0))] rfl rfl rfl rfl (by rfl) ?_
 refine VC.loop (ι := {i : Nat // i ≤ l.length}) (fun q => [(0, .c (.sl 1 (l.map sPV))), (2, .ref 0 1 0 0), (3, .ref 16 1 0 0), (4, .c (.v (.int .i64 (q.1 : Int))))])
  (fun q => [(0, ⟨false, 36, 5, [[.c (.v (.int .i64 0)), .c (.v (.int .i64 0)), .c (.v (.string ⟨#[]⟩)), .c (.v (.slice none 0 0)), .c (.v (.slice none 0 0))]]⟩),
   (16, ⟨false, 36, 5, [[.c (.v (.int .i64 5)), .c (.v (.int .i64 0)), .c (.v (.string ⟨#[]⟩)), .row 40 q.1, .c (.v (.slice none 0 0))]]⟩), (40, ⟨true, 36, 5, rA JT.cells ((l.take q.1).map textJ)⟩)]) 800 (fun q => l.length - q.1) ⟨0, Nat.zero_le _⟩ ?_ ?_
 · simp only [rA_nil, rA_len, rA_sc, Weak, eq_self, used_is, sc_any, sc_c, sc_pp, sc_ref, sc_row, sc_agg, sc_fn, ScL, some_imp, List.forall_mem_map, go_sem, Int.reduceBEq, Int.reduceLE, Int.reduceLT, Int.reduceNeg, Nat.reduceAdd, Nat.reduceEqDiff, Nat.reduceLT, Nat.reduceLeDiff, Nat.reduceMul, Nat.reduceSub, reduceCtorEq, ↓reduceIte]
   try simp
 rintro ⟨i, hi⟩
 simp only []
 have hti : ((l.take i).map textJ).length = i := by simp; omega
 refine walkG ?_
 refine VC.cond (by rfl) (by trivial) (fun hc => ?_) (fun hc => ?_)
 · have hlt : i < l.length := by simp at hc; omega
   obtain ⟨s, hs⟩ : ∃ s, l[i]? = some s := ⟨l[i], List.getElem?_eq_getElem hlt⟩
   have hsp : (l.map sPV)[i]? = some [.v (.string (str s))] := by rw [List.getElem?_map, hs]; rfl
   have hw : IntKind.i64.wrap ((i : Int) + 1) = (i : Int) + 1 := wrap64_id (by omega) (by omega)
   have hT := rtext17_told s
   have hap := texts_next hs
   have hti2 : ((l.take (i + 1)).map textJ).length = i + 1 := by simp; omega
   simp only [JT.av_eq] at hT
   generalize textJ s = x at hT hap
   refine walkGF (And.intro hsp (And.intro @rA_len hti)) ?_
   refine walkC (hT) ?_
   refine walkGF (And.intro @rA_len (And.intro hti (And.intro @len_cells (And.intro @take_cells (And.intro @take_cellsC (And.intro hap hw)))))) ?_
   refine .next ⟨i + 1, by omega⟩ ?_ (by simp only []; omega)
   simp only [rA_len, rA_sc, hti2, Weak, eq_self, used_is, sc_any, sc_c, sc_pp, sc_ref, sc_row, sc_agg, sc_fn, ScL, some_imp, List.forall_mem_map, go_sem, Int.reduceBEq, Int.reduceLE, Int.reduceLT, Int.reduceNeg, Nat.reduceAdd, Nat.reduceEqDiff, Nat.reduceLT, Nat.reduceLeDiff, Nat.reduceMul, Nat.reduceSub, reduceCtorEq, ↓reduceIte]
   try exact ⟨cI (by omega), Nat.le_refl _⟩
 · have hie : i = l.length := by simp at hc; omega
   refine walkGF (And.intro @rA_len hti) ?_
   refine retX Tryz.results98 ?_
   rw [hie, List.take_length] at *
   exact Frz.aggL (.cons (.c _) (.cons (.c _) (.cons (.c _) (.cons (frz_rA (f := JT.cells) (l := l.map textJ) (T := 36) rfl (by rw [List.length_map]) rfl fun x _ => len_cells x) (.cons (.nil 1) .nil)))))
theorem rwith_told (k n : Int) (s : List UInt8) (ks : List (List UInt8)) (xs : List JT) (key : List UInt8) (x : JT) (hk : ks.length ≤ 1000000) (hx : xs.length ≤ 1000000) :
  Told Tryz.prog 97 [(JT.mk k n s ks xs).av, .c (.v (.string (str key))), x.av] (JT.mk 6 n s (ks ++ [key]) (xs ++ [x])).av := by
 have a1 : List.map (fun e => List.map AV.c e) (ks.map sPV) ++ [[.c (.v (.string (str key)))]] = rA sPV (ks ++ [key]) := by simp [rA, sPV]
 have a2 : List.map (fun e => List.map AV.c e) (xs.map JT.cells) ++ [x.cells.map .c] = rA JT.cells (xs ++ [x]) := by simp [rA]
 rw [JT.av_eq, JT.av_eq, JT.av_eq, cells_mk, cells_mk]
 refine VC.toldP ent_97 Tryz.func97 rfl Tryz.ntmps97 fun hb => ?_
 clear hb
 refine walkGF (And.intro @len_cells (And.intro @take_cells (And.intro @take_cellsC (And.intro a1 a2)))) ?_
 refine retX Tryz.results97 ?_
 exact Frz.aggL (.cons (.c _) (.cons (.c _) (.cons (.c _) (.cons (frz_rA (f := JT.cells) (l := xs ++ [x]) (T := 36) rfl (by simp) rfl fun x _ => len_cells x) (.cons (frz_rA (f := sPV) (l := ks ++ [key]) (T := 9) rfl (by simp) rfl fun x _ => rfl) .nil)))))

theorem str_aName : str aName = ⟨#[110, 97, 109, 101]⟩ := rfl
theorem str_aType : str aType = ⟨#[116, 121, 112, 101]⟩ := rfl
theorem str_aSpace : str aSpace = ⟨#[110, 97, 109, 101, 115, 112, 97, 99, 101]⟩ := rfl
theorem str_aAliases : str aAliases = ⟨#[97, 108, 105, 97, 115, 101, 115]⟩ := rfl
theorem str_aDefault : str aDefault = ⟨#[100, 101, 102, 97, 117, 108, 116]⟩ := rfl
theorem str_aFields : str aFields = ⟨#[102, 105, 101, 108, 100, 115]⟩ := rfl
theorem str_aSymbols : str aSymbols = ⟨#[115, 121, 109, 98, 111, 108, 115]⟩ := rfl
theorem str_aSize : str aSize = ⟨#[115, 105, 122, 101]⟩ := rfl
theorem str_aItems : str aItems = ⟨#[105, 116, 101, 109, 115]⟩ := rfl
theorem str_aValues : str aValues = ⟨#[118, 97, 108, 117, 101, 115]⟩ := rfl
def shB (ns : List NT) (r : Int) (m : Nat) (w : Bool) : Blkd := ⟨false, 88, 4, [[.c (.sl 10 (ns.map NT.cells)), .c (.v (.int .i64 r)), .row 1000001 m, .c (.v (.bool w))]]⟩
theorem sfield_told (ns : List NT) (r : Int) (m : Nat) (f : FT) (hf : f.aliases.length ≤ 1000000) (a : List UInt8) (M M' : List Bool) (hM : M.length = m) (hM' : M'.length = m) (w w' : Bool) (x : JT)
  (hT : ToldM Tryz.prog 51 [.ref 1000000 1 0 0, .c (.v (.int .i64 f.type)), .c (.v (.string (str a)))] [shB ns r m w, mB M] [some (shB ns r m w'), some (mB M')] x.av) :
  ToldM Tryz.prog 142 [.ref 1000000 1 0 0, f.av, .c (.v (.string (str a)))] [shB ns r m w, mB M] [some (shB ns r m w'), some (mB M')] (objJ (fieldO f x)).av := by
 have hO := sobj_told
 have hN := stext_told f.name
 have hA := stexts_told f.aliases hf
 obtain ⟨o1, h1⟩ : ∃ o1, o1 = [(aName, textJ f.name)] := ⟨_, rfl⟩
 obtain ⟨o2, h2⟩ : ∃ o2, o2 = o1 ++ [(aType, x)] := ⟨_, rfl⟩
 obtain ⟨o3, h3⟩ : ∃ o3, o3 = putO o2 (decide (0 < f.aliases.length)) aAliases (textsJ f.aliases) := ⟨_, rfl⟩
 have l1 : o1.length ≤ 1 := by rw [h1]; simp
 have l2 : o2.length ≤ 2 := by rw [h2, List.length_append]; simp; omega
 have l3 : o3.length ≤ 3 := by rw [h3]; have := (putO_len o2 (decide (0 < f.aliases.length)) aAliases (textsJ f.aliases)).2; omega
 have ho : fieldO f x = putO o3 f.has aDefault f.dflt := by rw [h3, h2, h1]; rfl
 have p1 := sput_told [] (by simp) true aName (textJ f.name)
 rw [putO_true, List.nil_append, ← h1] at p1
 have p2 := sput_told o1 (by omega) true aType x
 rw [putO_true, ← h2] at p2
 have p3 := sput_told o2 (by omega) (decide (0 < f.aliases.length)) aAliases (textsJ f.aliases)
 rw [← h3] at p3
 have p4 := sput_told o3 (by omega) f.has aDefault f.dflt
 rw [← ho] at p4
 clear h1 h2 h3 ho
 generalize fieldO f x = o at *
 generalize textJ f.name = y1 at *
 generalize textsJ f.aliases = y2 at *
 have hgt : decide (0 < f.aliases.length) = decide ((f.aliases.length : Int) > 0) := by
  rw [decide_eq_decide]; omega
 rw [hgt] at p3
 obtain ⟨b3, hb3⟩ : ∃ b3, b3 = decide ((f.aliases.length : Int) > 0) := ⟨_, rfl⟩
 rw [← hb3] at p3
 replace hb3 := hb3.symm
 simp only [JT.av_eq, ovC, ovJ, ovK, ovI, putF, rA_nil, List.length_nil, List.map_nil, str_aName, str_aType, str_aAliases, str_aDefault] at hO hN hA p1 p2 p3 p4 hT
 rw [objJ, FT.av_eq, fcells_mk, JT.av_eq, cells_mk]
 unfold shB mB at *
 refine VC.toldXF (And.intro @rA_len (And.intro @rA_sc (And.intro hM hM'))) ent_142 [] Tryz.func142 rfl Tryz.ntmps142 fun hb hbL => ?_
 clear hb hbL
 refine walkG ?_
 refine walkL [] (hO) ?_
 refine walkG ?_
 refine walkC (hN) ?_
 refine walkG ?_
 refine walkLF (And.intro @rA_len @rA_ren) [16, 17, 18, 19] (p1) ?_
 refine walkGF (And.intro @rA_len @rA_ren) ?_
 refine walkLF (And.intro @rA_len (And.intro @rA_ren (And.intro hM hM'))) [1000000, 1000001] (hT) ?_
 refine walkGF (And.intro @rA_len @rA_ren) ?_
 refine walkLF (And.intro @rA_len @rA_ren) [16, 17, 18, 19] (p2) ?_
 refine walkGF (And.intro @rA_len (And.intro @rA_ren hb3)) ?_
 refine walkC (hA) ?_
 refine walkGF (And.intro @rA_len (And.intro @rA_ren hb3)) ?_
 refine walkLF (And.intro @rA_len @rA_ren) [16, 17, 18, 19] (p3) ?_
 refine walkGF (And.intro @rA_len (And.intro @rA_ren (And.intro @len_cells (And.intro @take_cells @take_cellsC)))) ?_
 refine walkLF (And.intro @rA_len @rA_ren) [16, 17, 18, 19] (p4) ?_
 refine walkGF (And.intro @rA_len @rA_ren) ?_
 refine retXF (And.intro @rA_ren (And.intro @rA_len (And.intro hM hM'))) Tryz.results142 ?_
 exact Frz.aggL (.cons (.c _) (.cons (.c _) (.cons (.c _) (.cons (frz_rA (f := JT.cells) (l := o.map Prod.snd) (T := 36) rfl (by simp) rfl fun x _ => len_cells x) (.cons (frz_rA (f := sPV) (l := o.map Prod.fst) (T := 9) rfl (by simp) rfl fun x _ => rfl) .nil)))))

theorem rletter9_told (c : UInt8) : Told Tryz.prog 215 [.c (.v (.int .u8 (c.toNat : Int)))] (.c (.v (.bool (isLet c)))) := by
 obtain ⟨V, hV⟩ : ∃ V, V = isLet c := ⟨_, rfl⟩
 rw [← hV]
 obtain ⟨y, hy⟩ : ∃ y : Int, y = (c.toNat : Int) := ⟨_, rfl⟩
 rw [← hy]
 have hv : V = ((decide (y ≥ 97) && decide (y ≤ 122)) || ((decide (y ≥ 65) && decide (y ≤ 90)) || (y == 95))) := by
  have e : (y == 95) = decide (c.toNat = 95) := by
   rw [hy]
   by_cases h : c.toNat = 95
   · simp [h]
   · have : ¬ ((c.toNat : Int) = 95) := by omega
     simp [h, this]
  rw [hV, isLet, e, hy]
  congr 1
  · congr 1 <;> simp <;> omega
  · congr 1
    congr 1 <;> simp <;> omega
 clear hV hy
 replace hv := Lib.hid hv
 refine VC.toldP ent_215 Tryz.func215 rfl Tryz.ntmps215 fun hb => ?_
 clear hb
 (repeat (first | refine pass ?_ | refine VC.region (by rfl) (by rfl) ?_ | (refine AO.step fun K hK => ?_; simp only [List.append_assoc, go_sem, Int.reduceBEq, Int.reduceLE, Int.reduceLT, Int.reduceNeg, Nat.reduceAdd, Nat.reduceEqDiff, Nat.reduceLT, Nat.reduceLeDiff, Nat.reduceMul, Nat.reduceSub, reduceCtorEq, ↓reduceIte]; (first | refine gsel_skip ?_ | refine gsel_go ?_ | skip); (first | refine hK _ _ _ ?_ | refine ⟨by first | omega | exact ⟨_, rfl, rfl⟩ | exact fun _ => ⟨_, rfl, rfl⟩ | (intro h; simp only [List.append_assoc, h, true_and]; omega) | (clear hK; intro h; simp_all <;> omega), hK _ _ _ ?_⟩); clear hK K) | refine VC.draw mixP (by rfl) (by rfl) ?_ | refine ⟨okd_of (by kernel_rfl), ?_⟩ | refine BQ.other (by decide) ?_ | refine VC.seq ?_ | refine AO.nil ?_ | refine VC.block ?_))
 refine retX Tryz.results215 ?_
 have hv2 : V = ((decide (y ≥ 97) && decide (y ≤ 122)) || (decide (y ≥ 65) && decide (y ≤ 90)) || (y == 95)) := by rw [hv.out, Bool.or_assoc]
 rw [hv2]
 exact .c _
theorem rdigit9_told (c : UInt8) : Told Tryz.prog 216 [.c (.v (.int .u8 (c.toNat : Int)))] (.c (.v (.bool (isDig c)))) := by
 have e : isDig c = (decide ((c.toNat : Int) ≥ 48) && decide ((c.toNat : Int) ≤ 57)) := by
  unfold isDig
  congr 1 <;> simp <;> omega
 rw [e]
 refine VC.toldP ent_216 Tryz.func216 rfl Tryz.ntmps216 fun hb => ?_
 clear hb
 refine walkG ?_
 refine retX Tryz.results216 ?_
 exact .c _
theorem rsimple_told (s : List UInt8) (hs : s.length ≤ 1000000000) : Told Tryz.prog 188 [.c (.v (.string (str s)))] (.c (.v (.bool (simpleM s)))) := by
 obtain ⟨V, hV⟩ : ∃ V, V = simpleM s := ⟨_, rfl⟩
 rw [← hV]
 cases s with
 | nil =>
   obtain rfl : V = false := by rw [hV]; rfl
   refine VC.toldP ent_188 Tryz.func188 rfl Tryz.ntmps188 fun hb => ?_
   clear hb
   refine walkBF (@str_size) ?_
   refine retX Tryz.results188 ?_
   exact .c _
 | cons c cs =>
 obtain ⟨l, hll⟩ : ∃ l, l = c :: cs := ⟨_, rfl⟩
 have hpos : 0 < l.length := by rw [hll]; simp
 have e2 : ((l.length : Int) == 0) = false := beq_eq_false_iff_ne.2 (by omega)
 have hc0 : l[0]? = some c := by rw [hll]; rfl
 rw [← hll] at hV hs ⊢
 by_cases hl : l.length ≤ 100
 rotate_left
 · obtain rfl : V = false := by rw [hV, simpleM, decide_eq_false hl]; rfl
   have e1 : decide ((l.length : Int) > 100) = true := by simp; omega
   refine VC.toldP ent_188 Tryz.func188 rfl Tryz.ntmps188 fun hb => ?_
   clear hb
   refine walkBF (And.intro @str_size (And.intro e1 e2)) ?_
   refine retX Tryz.results188 ?_
   exact .c _
 have e1 : decide ((l.length : Int) > 100) = false := by simp; omega
 have hL := rletter9_told c
 have hv : V = (isLet c && l.all fun c => isLet c || isDig c) := by
  rw [hV, simpleM, decide_eq_true hl, Bool.true_and, hll]
  simp only [simp1, List.all_cons]
  cases isLet c <;> simp
 clear hV hll
 obtain ⟨bl, hbl⟩ : ∃ b, b = isLet c := ⟨_, rfl⟩
 rw [← hbl] at hL hv
 refine VC.toldP ent_188 Tryz.func188 rfl Tryz.ntmps188 fun hb => ?_
 clear hb
 refine walkGF (And.intro @str_size (And.intro e1 (And.intro e2 (And.intro @str_dl hc0)))) ?_
 refine walkC (hL) ?_
 refine walkG ?_
 refine VC.cond (by rfl) (by trivial) (fun hc => ?_) (fun hc => ?_)
 · obtain rfl : V = false := by
    rw [hv]
    have : bl = false := by simpa using hc
    rw [this]
    rfl
   refine walkG ?_
   refine retX Tryz.results188 ?_
   exact .c _
 have hbt : bl = true := by simpa using hc
 subst hbt
 rw [Bool.true_and] at hv
 refine walkGF (@str_size) ?_
 refine VC.loop (ι := {i : Nat // i ≤ l.length ∧ ∀ (j : Nat) (c : UInt8), j < i → l[j]? = some c → (isLet c || isDig c) = true})
  (fun q => [(0, .c (.v (.string (str l)))), (3, .c (.v (.int .i64 (q.1 : Int))))]) (fun _ => []) 800 (fun q => l.length - q.1) ⟨0, Nat.zero_le _, fun j c h => by omega⟩ ?_ ?_
 · exact weakZ
 rintro ⟨i, hi, ht⟩
 simp only []
 refine walkGF (@str_size) ?_
 refine VC.cond (by rfl) (by trivial) (fun hc => ?_) (fun hc => ?_)
 · have hlt : i < l.length := by simp at hc; omega
   obtain ⟨d, hx⟩ : ∃ d, l[i]? = some d := ⟨l[i], List.getElem?_eq_getElem hlt⟩
   have hw : IntKind.i64.wrap ((i : Int) + 1) = (i : Int) + 1 := wrap64_id (by omega) (by omega)
   have hL := rletter9_told d
   have hD := rdigit9_told d
   obtain ⟨b1, hb1⟩ : ∃ b, b = isLet d := ⟨_, rfl⟩
   obtain ⟨b2, hb2⟩ : ∃ b, b = isDig d := ⟨_, rfl⟩
   rw [← hb1] at hL
   rw [← hb2] at hD
   refine walkGF (And.intro @str_size (And.intro @str_dl hx)) ?_
   refine walkC (hL) ?_
   refine walkGF (And.intro @str_size (And.intro @str_dl hx)) ?_
   refine walkD (hD) ?_
   refine walkG ?_
   refine VC.cond (by rfl) (by trivial) (fun hc2 => ?_) (fun hc2 => ?_)
   · have hf : V = false := by
      rw [hv, List.all_eq_false]
      refine ⟨d, List.mem_of_getElem? hx, ?_⟩
      rw [← hb1, ← hb2]
      cases b1 <;> cases b2 <;> simp at hc2 ⊢
     subst hf
     refine walkG ?_
     refine retX Tryz.results188 ?_
     exact .c _
   · refine walkGF (hw) ?_
     refine .next ⟨i + 1, by omega, ?_⟩ ?_ (by simp only []; omega)
     · intro j e hj he
       by_cases hji : j < i
       · exact ht j e hji he
       · obtain rfl : j = i := by omega
         rw [hx] at he
         obtain rfl := Option.some.inj he
         rw [← hb1, ← hb2]
         cases b1 <;> cases b2 <;> simp at hc2 ⊢
     simp only [Weak, eq_self, used_is, sc_any, sc_c, sc_pp, sc_ref, sc_row, sc_agg, sc_fn, ScL, some_imp, List.forall_mem_map, go_sem, Int.reduceBEq, Int.reduceLE, Int.reduceLT, Int.reduceNeg, Nat.reduceAdd, Nat.reduceEqDiff, Nat.reduceLT, Nat.reduceLeDiff, Nat.reduceMul, Nat.reduceSub, reduceCtorEq, ↓reduceIte]
     try exact cI (by omega)
 · have hie : i = l.length := by simp at hc; omega
   have hf : V = true := by
    rw [hv, List.all_eq_true]
    intro e he
    obtain ⟨j, hj⟩ := List.getElem?_of_mem he
    exact ht j e (by have := (List.getElem?_eq_some_iff.1 hj).1; omega) hj
   subst hf
   refine walkG ?_
   refine retX Tryz.results188 ?_
   exact .c _
theorem rdot_told (s : List UInt8) (hs : s.length ≤ 1000000000) : Told Tryz.prog 149 [.c (.v (.string (str s)))] (.c (.v (.int .i64 (dotI s)))) := by
 obtain ⟨V, hV⟩ : ∃ V, V = dotI s := ⟨_, rfl⟩
 rw [← hV]
 unfold dotI at hV
 refine VC.toldP ent_149 Tryz.func149 rfl Tryz.ntmps149 fun hb => ?_
 clear hb
 refine walkG ?_
 refine VC.loop (ι := {x : Nat × Int // x.1 ≤ s.length ∧ dotA x.1 x.2 (s.drop x.1) = V})
  (fun q => [(0, .c (.v (.string (str s)))), (3, .c (.v (.int .i64 q.1.2))), (4, .c (.v (.int .i64 (q.1.1 : Int))))]) (fun _ => []) 800 (fun q => s.length - q.1.1) ⟨(0, -1), Nat.zero_le _, by simpa using hV.symm⟩ ?_ ?_
 · exact weakZ
 rintro ⟨⟨i, a⟩, hi, hv⟩
 simp only [] at hi hv ⊢
 refine walkGF (@str_size) ?_
 refine VC.cond (by rfl) (by trivial) (fun hc => ?_) (fun hc => ?_)
 · have hlt : i < s.length := by simp at hc; omega
   obtain ⟨d, hx⟩ : ∃ d, s[i]? = some d := ⟨s[i], List.getElem?_eq_getElem hlt⟩
   have hw : IntKind.i64.wrap ((i : Int) + 1) = (i : Int) + 1 := wrap64_id (by omega) (by omega)
   rw [(List.drop_eq_getElem_cons hlt).trans (by rw [(List.getElem?_eq_some_iff.1 hx).2] : _ = d :: s.drop (i + 1)), dotA] at hv
   refine walkGF (And.intro @str_size (And.intro @str_dl hx)) ?_
   refine VC.cond (by rfl) (by trivial) (fun hc2 => ?_) (fun hc2 => ?_)
   · have hd : d = 46 := by
      simp at hc2
      exact UInt8.toNat_inj.1 (by simp; omega)
     rw [if_pos hd] at hv
     refine walkGF (hw) ?_
     refine .next ⟨(i + 1, (i : Int)), by simp only []; omega, hv⟩ ?_ (by simp only []; omega)
     simp only [Weak, eq_self, used_is, sc_any, sc_c, sc_pp, sc_ref, sc_row, sc_agg, sc_fn, ScL, some_imp, List.forall_mem_map, go_sem, Int.reduceBEq, Int.reduceLE, Int.reduceLT, Int.reduceNeg, Nat.reduceAdd, Nat.reduceEqDiff, Nat.reduceLT, Nat.reduceLeDiff, Nat.reduceMul, Nat.reduceSub, reduceCtorEq, ↓reduceIte]
     try exact cI (by omega)
   · have hd : d ≠ 46 := by
      rintro rfl
      simp at hc2
     rw [if_neg hd] at hv
     refine walkGF (hw) ?_
     refine .next ⟨(i + 1, a), by simp only []; omega, hv⟩ ?_ (by simp only []; omega)
     simp only [Weak, eq_self, used_is, sc_any, sc_c, sc_pp, sc_ref, sc_row, sc_agg, sc_fn, ScL, some_imp, List.forall_mem_map, go_sem, Int.reduceBEq, Int.reduceLE, Int.reduceLT, Int.reduceNeg, Nat.reduceAdd, Nat.reduceEqDiff, Nat.reduceLT, Nat.reduceLeDiff, Nat.reduceMul, Nat.reduceSub, reduceCtorEq, ↓reduceIte]
     try exact cI (by omega)
 · have hie : i = s.length := by simp at hc; omega
   have hf : V = a := by rw [← hv, hie, List.drop_length, dotA]
   subst hf
   refine walkG ?_
   refine retX Tryz.results149 ?_
   exact .c _
theorem rfull_told (s : List UInt8) (hs : s.length ≤ 1000000000) : Told Tryz.prog 145 [.c (.v (.string (str s)))] (.c (.v (.bool (fullM s)))) := by
 obtain ⟨V, hV⟩ : ∃ V, V = fullM s := ⟨_, rfl⟩
 rw [← hV]
 rw [fullM_ok] at hV
 refine VC.toldP ent_145 Tryz.func145 rfl Tryz.ntmps145 fun hb => ?_
 clear hb
 refine walkGF (@str_size) ?_
 refine VC.cond (by rfl) (by trivial) (fun hc => ?_) (fun hc => ?_)
 · have hf : V = false := by
    have : ¬ (s.length ≤ 100) := by simp at hc; omega
    rw [hV]
    simp [this]
   subst hf
   refine walkG ?_
   refine retX Tryz.results145 ?_
   exact .c _
 have hl : s.length ≤ 100 := by simp at hc; omega
 have hv : okF s = V := by rw [hV]; simp [hl]
 clear hV hc
 refine walkG ?_
 refine VC.loop (ι := {l : List UInt8 // l.length ≤ 100 ∧ okF l = V}) (fun q => [(0, .c (.v (.string (str q.1))))]) (fun _ => []) 800 (fun q => q.1.length) ⟨s, hl, hv⟩ ?_ ?_
 · exact weakZ
 rintro ⟨l, hl, hv⟩
 simp only []
 have hD := rdot_told l (by omega)
 refine walkG ?_
 refine walkC (hD) ?_
 rcases dotI_spec l with ⟨h1, h2⟩ | ⟨j, hj, h2, h3, h4⟩
 · rw [okF_none h1] at hv
   have hS := rsimple_told l (by omega)
   have hsv : simpleM l = V := by rw [simpleM, ← hv]; simp [hl]
   rw [hsv] at hS
   rw [h2] at hD ⊢
   refine walkB ?_
   refine walkC (hS) ?_
   refine walkG ?_
   refine retX Tryz.results145 ?_
   exact .c _
 · rw [h2] at hD ⊢
   obtain ⟨t, htt⟩ : ∃ t, t = l.drop (j + 1) := ⟨_, rfl⟩
   have htl : t.length ≤ 100 := by rw [htt, List.length_drop]; omega
   have hS := rsimple_told t (by omega)
   have hsv : simpleM t = simp1 t := by rw [simpleM]; simp [htl]
   rw [hsv] at hS
   have hv2 : (okF (l.take j) && simp1 t) = V := by
    rw [← okF_dot (by rw [htt]; exact h4), htt, ← h3]
    exact hv
   obtain ⟨b, hbb⟩ : ∃ b, b = simp1 t := ⟨_, rfl⟩
   rw [← hbb] at hS hv2
   have hd : decide ((j : Int) ≥ 0) = true := by simp
   have hw : IntKind.i64.wrap ((j : Int) + 1) = (j : Int) + 1 := wrap64_id (by omega) (by omega)
   have ht : ((j : Int) + 1).toNat = j + 1 := by omega
   have hx1 : (str l).extract 0 j = str (l.take j) := by rw [str_extract, List.drop_zero]
   have hx2 : (str l).extract (j + 1) l.length = str t := by rw [str_extract, List.take_length, htt]
   refine walkBF (hd) ?_
   refine walkC (hD) ?_
   refine walkGF (And.intro hw (And.intro @str_size (And.intro ht hx2))) ?_
   refine walkC (hS) ?_
   refine walkG ?_
   refine VC.cond (by rfl) (by trivial) (fun hc => ?_) (fun hc => ?_)
   · have hf : V = false := by
      have : b = false := by simpa using hc
      rw [← hv2, this]
      simp
     subst hf
     refine walkG ?_
     refine retX Tryz.results145 ?_
     exact .c _
   · have hbt : b = true := by simpa using hc
     rw [hbt, Bool.and_true] at hv2
     refine walkG ?_
     refine walkC (hD) ?_
     refine walkGF (And.intro @str_size hx1) ?_
     refine .next ⟨l.take j, by rw [List.length_take]; omega, hv2⟩ ?_ (by simp only [List.length_take]; omega)
     exact weakZ
theorem rword_told (k : Nat) (hk : k ≤ 14) (w : List UInt8) (hw : kwords[k]? = some w) : Told Tryz.prog 95 [.c (.v (.int .i64 (k : Int)))] (.c (.v (.string (str w)))) := by
 rcases (by omega : k = 0 ∨ k = 1 ∨ k = 2 ∨ k = 3 ∨ k = 4 ∨ k = 5 ∨ k = 6 ∨ k = 7 ∨ k = 8 ∨ k = 9 ∨ k = 10 ∨ k = 11 ∨ k = 12 ∨ k = 13 ∨ k = 14) with rfl | rfl | rfl | rfl | rfl | rfl | rfl | rfl | rfl | rfl | rfl | rfl | rfl | rfl | rfl
 all_goals
  obtain rfl := Option.some.inj hw
  refine VC.toldP ent_95 Tryz.func95 rfl Tryz.ntmps95 fun hb => ?_
  clear hb
  refine walkB ?_
  refine retX Tryz.results95 ?_
  exact .c _
theorem rkind_told (s : List UInt8) : Told Tryz.prog 146 [.c (.v (.string (str s)))] (.c (.v (.int .i64 (kindM s : Int)))) := by
 obtain ⟨V, hV⟩ : ∃ V, V = kindM s := ⟨_, rfl⟩
 rw [← hV]
 refine VC.toldP ent_146 Tryz.func146 rfl Tryz.ntmps146 fun hb => ?_
 clear hb
 have hE : (⟨#[]⟩ : ByteArray).toList = [] := str_toList []
 have hkl : kwords.length = 15 := rfl
 refine walkG ?_
 refine VC.loop (ι := {i : Nat // 1 ≤ i ∧ i ≤ 15 ∧ ∀ (j : Nat) (w : List UInt8), j < i → kwords[j]? = some w → s ≠ [] → w ≠ s}) (fun q => [(0, .c (.v (.string (str s)))), (3, .c (.v (.int .i64 (q.1 : Int))))]) (fun _ => []) 800 (fun q => 15 - q.1)
  ⟨1, by omega, by omega, fun j w h hj hs => by
   obtain rfl : j = 0 := by omega
   obtain rfl := Option.some.inj hj
   exact fun e => hs e.symm⟩ ?_ ?_
 · exact weakZ
 rintro ⟨i, hi0, hi, ht⟩
 simp only []
 refine walkG ?_
 refine VC.cond (by rfl) (by trivial) (fun hc => ?_) (fun hc => ?_)
 · have hlt : i < 15 := by simp at hc; omega
   obtain ⟨w, hx⟩ : ∃ w, kwords[i]? = some w := ⟨kwords[i]'(by omega), List.getElem?_eq_getElem (by omega)⟩
   have hw : IntKind.i64.wrap ((i : Int) + 1) = (i : Int) + 1 := wrap64_id (by omega) (by omega)
   have hW := rword_told i (by omega) w hx
   refine walkGF (And.intro @str_toList hE) ?_
   refine walkD (hW) ?_
   refine walkGF (And.intro @str_toList hE) ?_
   refine VC.cond (by rfl) (by trivial) (fun hc2 => ?_) (fun hc2 => ?_)
   · have hh : s ≠ [] ∧ w = s := by simpa using hc2
     have hf : V = i := by
      rw [hV, kindM, if_neg hh.1]
      have : kwords.findIdx? (· == s) = some i := by
       rw [List.findIdx?_eq_some_iff_getElem]
       refine ⟨by omega, ?_, fun j hj => ?_⟩
       · have := (List.getElem?_eq_some_iff.1 hx).2
         simp [this, hh.2]
       · have := ht j _ hj (List.getElem?_eq_getElem (by omega)) hh.1
         simpa using this
      rw [this]
     subst hf
     refine walkG ?_
     refine retX Tryz.results146 ?_
     exact .c _
   · have hh : ¬ (s ≠ [] ∧ w = s) := by simpa using hc2
     refine walkGF (hw) ?_
     refine .next ⟨i + 1, by omega, by omega, ?_⟩ ?_ (by simp only []; omega)
     · intro j u hj hu hs
       by_cases hji : j < i
       · exact ht j u hji hu hs
       · obtain rfl : j = i := by omega
         rw [hx] at hu
         obtain rfl := Option.some.inj hu
         exact fun e => hh ⟨hs, e⟩
     refine weakX ?_
     exact cI (by omega)
 · have hie : i = 15 := by simp at hc; omega
   have hf : V = 0 := by
    rw [hV, kindM]
    split
    · rfl
    · rename_i hs
      have : kwords.findIdx? (· == s) = none := by
       rw [List.findIdx?_eq_none_iff]
       intro w hw
       obtain ⟨j, hj⟩ := List.getElem?_of_mem hw
       have := ht j w (by have := (List.getElem?_eq_some_iff.1 hj).1; omega) hj hs
       simpa using this
      rw [this]
   subst hf
   refine walkG ?_
   refine retX Tryz.results146 ?_
   exact .c _

theorem dotI_no {s : List UInt8} (h : 46 ∉ s) : dotI s = -1 := by
 rcases dotI_spec s with ⟨_, h2⟩ | ⟨j, hj, h2, h3, h4⟩
 · exact h2
 · exact absurd (by rw [h3]; simp) h
theorem dotI_at {s : List UInt8} {j : Nat} (h : s[j]? = some 46) (hd : 46 ∉ s.drop (j + 1)) : dotI s = (j : Int) := by
 rcases dotI_spec s with ⟨h1, _⟩ | ⟨i, hi, h2, h3, h4⟩
 · exact absurd (List.mem_of_getElem? h) h1
 · rw [h2]
   have hx : s[i]? = some 46 := by
    have e : s[i]? = (s.take i ++ 46 :: s.drop (i + 1))[i]? := congrArg (fun l => l[i]?) h3
    rw [e, List.getElem?_append_right (by simp; omega)]
    simp [Nat.min_eq_left (Nat.le_of_lt hi)]
   have key : ∀ a b : Nat, s[b]? = some 46 → 46 ∉ s.drop (a + 1) → ¬ a < b := fun a b hb ha hlt => by
    apply ha
    apply List.mem_of_getElem? (i := b - (a + 1))
    rw [List.getElem?_drop, show a + 1 + (b - (a + 1)) = b by omega]
    exact hb
   have k1 := key j i hx hd
   have k2 := key i j h h4
   omega
theorem lastb_told (s : List UInt8) (hs : s.length ≤ 1000000000) : Told Tryz.prog 187 [.c (.v (.string (str s))), .c (.v (.int .u8 46))] (.c (.v (.int .i64 (dotI s)))) := by
 obtain ⟨V, hV⟩ : ∃ V, V = dotI s := ⟨_, rfl⟩
 rw [← hV]
 have hw0 : IntKind.i64.wrap ((s.length : Int) - 1) = (s.length : Int) - 1 := wrap64_id (by omega) (by omega)
 refine VC.toldP ent_187 Tryz.func187 rfl Tryz.ntmps187 fun hb => ?_
 clear hb
 refine walkGF (And.intro @str_size hw0) ?_
 refine VC.loop (ι := {x : Nat // x ≤ s.length ∧ 46 ∉ s.drop x}) (fun q => [(0, .c (.v (.string (str s)))), (1, .c (.v (.int .u8 46))), (5, .c (.v (.int .i64 ((q.1 : Int) - 1))))]) (fun _ => []) 800 (fun q => q.1) ⟨s.length, Nat.le_refl _, by simp⟩ ?_ ?_
 · exact weakZ
 rintro ⟨i, hi, hd⟩
 simp only []
 cases i with
 | zero =>
   have hf : V = -1 := by rw [hV]; exact dotI_no (by simpa using hd)
   subst hf
   rw [show ((0 : Nat) : Int) - 1 = -1 from rfl]
   refine walkB ?_
   refine retX Tryz.results187 ?_
   exact .c _
 | succ j =>
   obtain ⟨c, hx⟩ : ∃ c, s[j]? = some c := ⟨s[j], List.getElem?_eq_getElem (by omega)⟩
   rw [show ((j + 1 : Nat) : Int) - 1 = (j : Int) by omega]
   have hge : decide ((j : Int) ≥ 0) = true := by simp
   have hw : IntKind.i64.wrap ((j : Int) - 1) = (j : Int) - 1 := wrap64_id (by omega) (by omega)
   refine walkBF (And.intro @str_size (And.intro @str_dl (And.intro hx hge))) ?_
   refine VC.cond (by rfl) (by trivial) (fun hc2 => ?_) (fun hc2 => ?_)
   · have hcd : c = 46 := by
      simp at hc2
      exact UInt8.toNat_inj.1 (by simp; omega)
     have hf : V = (j : Int) := by rw [hV]; exact dotI_at (by rw [hx, hcd]) hd
     subst hf
     refine walkG ?_
     refine retX Tryz.results187 ?_
     exact .c _
   · have hcd : c ≠ 46 := by
      rintro rfl
      simp at hc2
     refine walkGF (hw) ?_
     refine .next ⟨j, by omega, ?_⟩ ?_ (by simp only []; omega)
     · rw [List.drop_eq_getElem_cons (by omega), (List.getElem?_eq_some_iff.1 hx).2]
       intro hm
       rcases List.mem_cons.1 hm with e | hm
       · exact hcd e.symm
       · exact hd hm
     exact weakZ
theorem lastI_told (s : List UInt8) (hs : s.length ≤ 1000000000) : Told Tryz.prog 139 [.c (.v (.string (str s))), .c (.v (.int .u8 46))] (.c (.v (.int .i64 (dotI s)))) := by
 have hL := lastb_told s hs
 refine VC.toldP ent_139 Tryz.func139 rfl Tryz.ntmps139 fun hb => ?_
 clear hb
 refine walkG ?_
 refine walkC (hL) ?_
 refine walkG ?_
 refine retX Tryz.results139 ?_
 exact .c _
theorem space_no {s : List UInt8} (h : dotI s = -1) : spaceM s = [] := by rw [spaceM, h]; simp
theorem space_at {s : List UInt8} {j : Nat} (h : dotI s = (j : Int)) : spaceM s = s.take j := by rw [spaceM, h]; simp
theorem last_no {s : List UInt8} (h : dotI s = -1) : lastM s = s := by rw [lastM, h]; simp
theorem last_at {s : List UInt8} {j : Nat} (h : dotI s = (j : Int)) : lastM s = s.drop (j + 1) := by rw [lastM, h]; congr 1
theorem space_told (s : List UInt8) (hs : s.length ≤ 1000000000) : Told Tryz.prog 84 [.c (.v (.string (str s)))] (.c (.v (.string (str (spaceM s))))) := by
 have hL := lastI_told s hs
 rcases dotI_spec s with ⟨h1, h2⟩ | ⟨j, hj, h2, h3, h4⟩
 · rw [space_no h2]
   rw [h2] at hL
   have hm : max (-1 : Int) 0 = 0 := rfl
   have hx : (str s).extract 0 0 = str [] := by rw [str_extract]; rfl
   refine VC.toldP ent_84 Tryz.func84 rfl Tryz.ntmps84 fun hb => ?_
   clear hb
   refine walkG ?_
   refine walkC (hL) ?_
   refine walkGF (And.intro hm (And.intro @str_size hx)) ?_
   refine retX Tryz.results84 ?_
   exact .c _
 · rw [space_at h2]
   rw [h2] at hL
   have hm : max (j : Int) 0 = (j : Int) := by omega
   have hx : (str s).extract 0 j = str (s.take j) := by rw [str_extract, List.drop_zero]
   refine VC.toldP ent_84 Tryz.func84 rfl Tryz.ntmps84 fun hb => ?_
   clear hb
   refine walkG ?_
   refine walkC (hL) ?_
   refine walkGF (And.intro hm (And.intro @str_size hx)) ?_
   refine retX Tryz.results84 ?_
   exact .c _
theorem last_told (s : List UInt8) (hs : s.length ≤ 1000000000) : Told Tryz.prog 140 [.c (.v (.string (str s)))] (.c (.v (.string (str (lastM s))))) := by
 have hL := lastI_told s hs
 rcases dotI_spec s with ⟨h1, h2⟩ | ⟨j, hj, h2, h3, h4⟩
 · rw [last_no h2]
   rw [h2] at hL
   have hw : IntKind.i64.wrap ((-1 : Int) + 1) = 0 := rfl
   have hx : (str s).extract 0 s.length = str s := by rw [str_extract, List.drop_zero, List.take_length]
   refine VC.toldP ent_140 Tryz.func140 rfl Tryz.ntmps140 fun hb => ?_
   clear hb
   refine walkG ?_
   refine walkC (hL) ?_
   refine walkGF (And.intro hw (And.intro @str_size hx)) ?_
   refine retX Tryz.results140 ?_
   exact .c _
 · rw [last_at h2]
   rw [h2] at hL
   have hw : IntKind.i64.wrap ((j : Int) + 1) = (j : Int) + 1 := wrap64_id (by omega) (by omega)
   have ht : ((j : Int) + 1).toNat = j + 1 := by omega
   have hx : (str s).extract (j + 1) s.length = str (s.drop (j + 1)) := by rw [str_extract, List.take_length]
   refine VC.toldP ent_140 Tryz.func140 rfl Tryz.ntmps140 fun hb => ?_
   clear hb
   refine walkG ?_
   refine walkC (hL) ?_
   refine walkGF (And.intro hw (And.intro ht (And.intro @str_size hx))) ?_
   refine retX Tryz.results140 ?_
   exact .c _
theorem rspace_told (s : List UInt8) (hs : s.length ≤ 1000000000) : Told Tryz.prog 93 [.c (.v (.string (str s)))] (.c (.v (.string (str (spaceM s))))) := by
 have hL := rdot_told s hs
 rcases dotI_spec s with ⟨h1, h2⟩ | ⟨j, hj, h2, h3, h4⟩
 · rw [space_no h2]
   rw [h2] at hL
   refine VC.toldP ent_93 Tryz.func93 rfl Tryz.ntmps93 fun hb => ?_
   clear hb
   refine walkG ?_
   refine walkC (hL) ?_
   refine walkB ?_
   refine retX Tryz.results93 ?_
   exact .c _
 · rw [space_at h2]
   rw [h2] at hL
   have hd : decide ((j : Int) < 0) = false := by simp
   have hx : (str s).extract 0 j = str (s.take j) := by rw [str_extract, List.drop_zero]
   refine VC.toldP ent_93 Tryz.func93 rfl Tryz.ntmps93 fun hb => ?_
   clear hb
   refine walkG ?_
   refine walkC (hL) ?_
   refine walkBF (hd) ?_
   refine walkC (hL) ?_
   refine walkGF (And.intro @str_size hx) ?_
   refine retX Tryz.results93 ?_
   exact .c _
theorem rlast_told (s : List UInt8) (hs : s.length ≤ 1000000000) : Told Tryz.prog 99 [.c (.v (.string (str s)))] (.c (.v (.string (str (lastM s))))) := by
 have hL := rdot_told s hs
 rcases dotI_spec s with ⟨h1, h2⟩ | ⟨j, hj, h2, h3, h4⟩
 · rw [last_no h2]
   rw [h2] at hL
   have hw : IntKind.i64.wrap ((-1 : Int) + 1) = 0 := rfl
   have hx : (str s).extract 0 s.length = str s := by rw [str_extract, List.drop_zero, List.take_length]
   refine VC.toldP ent_99 Tryz.func99 rfl Tryz.ntmps99 fun hb => ?_
   clear hb
   refine walkG ?_
   refine walkC (hL) ?_
   refine walkGF (And.intro hw (And.intro @str_size hx)) ?_
   refine retX Tryz.results99 ?_
   exact .c _
 · rw [last_at h2]
   rw [h2] at hL
   have hw : IntKind.i64.wrap ((j : Int) + 1) = (j : Int) + 1 := wrap64_id (by omega) (by omega)
   have ht : ((j : Int) + 1).toNat = j + 1 := by omega
   have hx : (str s).extract (j + 1) s.length = str (s.drop (j + 1)) := by rw [str_extract, List.take_length]
   refine VC.toldP ent_99 Tryz.func99 rfl Tryz.ntmps99 fun hb => ?_
   clear hb
   refine walkG ?_
   refine walkC (hL) ?_
   refine walkGF (And.intro hw (And.intro ht (And.intro @str_size hx))) ?_
   refine retX Tryz.results99 ?_
   exact .c _

theorem ToldM.co {P : Program} {f : FuncId} {args args' : List AV} {L : List Blkd} {L' : List (Option Blkd)} {y : AV} (hT : ToldM P f args' L L' y) (hc : CoL args args') : ToldM P f args L L' y :=
 ⟨hT.enters, hT.zs, hT.sc, fun W ro φ vs hro hgk hl hh => hT.out W ro φ vs hro hgk ⟨by rw [hl.1, hc.at_.1], fun j y v h1 h2 => by
  have hk : j < args.length := by have := (List.getElem?_eq_some_iff.1 h1).1; have := hc.at_.1; omega
  exact (hc.at_.2 j _ y (List.getElem?_eq_getElem hk) h1).rep (hl.2 j _ v (List.getElem?_eq_getElem hk) h2)⟩ hh⟩
theorem str_none (s : List UInt8) : ((str s).toList == (⟨#[]⟩ : ByteArray).toList) = s.isEmpty := by
 have := str_empty s
 cases h : s.isEmpty <;> simp_all
theorem fields_next {fs : List FT} {X : Nat → JT} {i : Nat} {f : FT} (h : fs[i]? = some f) : rA JT.cells (fieldsJ fs X i) ++ [(objJ (fieldO f (X i))).cells.map .c] = rA JT.cells (fieldsJ fs X (i + 1)) := by
 rw [fieldsJ, h]
 simp [rA]
theorem fieldsJ_len (fs : List FT) (X : Nat → JT) : ∀ i, i ≤ fs.length → (fieldsJ fs X i).length = i
 | 0, _ => rfl
 | i + 1, h => by
   rw [fieldsJ, List.getElem?_eq_getElem (by omega), List.length_append, fieldsJ_len fs X i (by omega)]
   rfl
theorem aliases_next {n : NT} {i : Nat} {a : List UInt8} (h : n.aliases[i]? = some a) : ((n.aliases.take (i + 1)).all fun a => nameOk (spaceM n.name) a) = (((n.aliases.take i).all fun a => nameOk (spaceM n.name) a) && nameOk (spaceM n.name) a) := by
 rw [List.take_add_one, h]
 simp
theorem snamed_told (ns : List NT) (r : Int) (m : Nat) (n : NT) (hk : n.kind = 9 ∨ n.kind = 10 ∨ n.kind = 14) (hnl : n.name.length ≤ 1000000) (hal : n.aliases.length ≤ 1000000 ∧ ∀ a ∈ n.aliases, a.length ≤ 1000000)
  (hfl : n.fields.length ≤ 1000000 ∧ ∀ f ∈ n.fields, f.aliases.length ≤ 1000000) (hsl : n.symbols.length ≤ 1000000) (Mk : Nat → List Bool) (hM : ∀ i, (Mk i).length = m) (K : Nat → Bool) (X : Nat → JT) (w : Bool)
  (hT : ∀ (i : Nat) (k : Int), (kidsN n)[i]? = some k → ∀ w, ToldM Tryz.prog 51 [.ref 1000000 1 0 0, .c (.v (.int .i64 k)), .c (.v (.string (str (spaceM n.name))))] [shB ns r m w, mB (Mk i)] [some (shB ns r m (w || !K i)), some (mB (Mk (i + 1)))] (X i).av) :
  ToldM Tryz.prog 85 [.ref 1000000 1 0 0, n.av] [shB ns r m w, mB (Mk 0)] [some (shB ns r m (w || !(aliasOk n && oksM K (kidsN n).length))), some (mB (Mk (kidsN n).length))] (nodeJ n X).av := by
 have hSp := space_told n.name (by omega)
 have hLa := last_told n.name (by omega)
 obtain ⟨u, hu⟩ : ∃ u : Nat, n.kind = (u : Int) := ⟨n.kind.toNat, by omega⟩
 have hWd := word_told u (by omega)
 have hO := sobj_told
 have hA := stexts_told n.aliases hal.1
 have hM0 := hM 0
 have hM2 := hM (kidsN n).length
 obtain ⟨W, hW⟩ : ∃ W : Nat → Bool, W = fun i => w || !((n.aliases.take i).all fun a => nameOk (spaceM n.name) a) := ⟨_, rfl⟩
 have hW0 : W 0 = w := by rw [hW]; simp
 have hWn : ∀ (i : Nat) (a : List UInt8), n.aliases[i]? = some a → W (i + 1) = (W i || !nameOk (spaceM n.name) a) := fun i a h => by
  rw [hW]
  simp only []
  rw [aliases_next h]
  cases w <;> simp
 have hWe : W n.aliases.length = (w || !aliasOk n) := by rw [hW]; simp only []; rw [List.take_length]; rfl
 clear hW
 simp only [JT.av_eq, ovC, ovJ, ovK, ovI, putF, rA_nil, List.length_nil, List.map_nil] at hO hA
 rw [NT.av_eq, ncells_mk, JT.av_eq]
 unfold shB mB at *
 refine VC.toldXF (And.intro @rA_len (And.intro @rA_sc (And.intro hM0 hM2))) ent_85 [] Tryz.func85 rfl Tryz.ntmps85 fun hb hbL => ?_
 clear hb hbL
 refine walkG ?_
 refine walkC (hSp) ?_
 refine walkG ?_
 refine VC.loop (ι := {i : Nat // i ≤ n.aliases.length}) (fun q => [(0, .ref 1000000 1 0 0), (3, .ref 0 1 0 0), (4, .ref 8 1 0 0), (5, .c (.v (.string (str (spaceM n.name))))), (17, .c (.sl 1 (n.aliases.map sPV))), (18, .c (.v (.int .i64 (n.aliases.length : Int)))), (19, .c (.v (.int .i64 (q.1 : Int))))])
  (fun q => [(0, ⟨false, 33, 10, [n.cells.map .c]⟩), (8, ⟨false, 36, 5, [[.c (.v (.int .i64 0)), .c (.v (.int .i64 0)), .c (.v (.string ⟨#[]⟩)), .c (.v (.slice none 0 0)), .c (.v (.slice none 0 0))]]⟩),
   (1000000, ⟨false, 88, 4, [[.c (.sl 10 (ns.map NT.cells)), .c (.v (.int .i64 r)), .row 1000001 m, .c (.v (.bool (W q.1)))]]⟩), (1000001, ⟨true, 4, 1, rA blP (Mk 0)⟩)]) 800 (fun q => n.aliases.length - q.1) ⟨0, Nat.zero_le _⟩ ?_ ?_
 · refine weakXF (And.intro @ncells_mk (And.intro @rA_len (And.intro @rA_sc (And.intro hM0 hW0)))) ?_
   exact Nat.le_refl _
 rintro ⟨i, hi⟩
 simp only []
 refine walkG ?_
 refine VC.cond (by rfl) (by trivial) (fun hc => ?_) (fun hc => ?_)
 · have hlt : i < n.aliases.length := by simp at hc; omega
   obtain ⟨a, ha⟩ : ∃ a, n.aliases[i]? = some a := ⟨n.aliases[i], List.getElem?_eq_getElem hlt⟩
   have hap : (n.aliases.map sPV)[i]? = some [.v (.string (str a))] := by rw [List.getElem?_map, ha]; rfl
   have hw : IntKind.i64.wrap ((i : Int) + 1) = (i : Int) + 1 := wrap64_id (by omega) (by omega)
   have hSa := space_told a (by have := hal.2 a (List.mem_of_getElem? ha); omega)
   have hWi := hWn i a ha
   unfold nameOk at hWi
   refine walkGF (hap) ?_
   cases hwi : W i with
   | true =>
     rw [hwi, Bool.true_or] at hWi
     refine walkGF (hw) ?_
     refine .next ⟨i + 1, by omega⟩ ?_ (by simp only []; omega)
     refine weakXF (And.intro @ncells_mk (And.intro @rA_len (And.intro @rA_sc (And.intro hM0 hWi)))) ?_
     exact ⟨cI (by omega), Nat.le_refl _⟩
   | false =>
     cases hse : (spaceM n.name).isEmpty with
     | true =>
       rw [hwi, hse] at hWi
       have e1 := str_none (spaceM n.name)
       rw [hse] at e1
       refine walkGF (And.intro hw e1) ?_
       refine .next ⟨i + 1, by omega⟩ ?_ (by simp only []; omega)
       refine weakXF (And.intro @ncells_mk (And.intro @rA_len (And.intro @rA_sc (And.intro hM0 hWi)))) ?_
       exact ⟨cI (by omega), Nat.le_refl _⟩
     | false =>
       rw [hwi, hse] at hWi
       have e1 := str_none (spaceM n.name)
       rw [hse] at e1
       have e2 := str_none (spaceM a)
       have hWi : W (i + 1) = (spaceM a).isEmpty := by rw [hWi]; simp
       generalize (spaceM a).isEmpty = z at e2 hWi
       refine walkGF (And.intro hw e1) ?_
       refine walkCF (e1) (hSa) ?_
       refine walkGF (And.intro hw (And.intro e1 e2)) ?_
       refine .next ⟨i + 1, by omega⟩ ?_ (by simp only []; omega)
       refine weakXF (And.intro @ncells_mk (And.intro @rA_len (And.intro @rA_sc (And.intro hM0 hWi)))) ?_
       exact ⟨cI (by omega), Nat.le_refl _⟩
 clear hWn hW0
 have hie : i = n.aliases.length := by simp at hc; omega
 subst hie
 rw [hWe]
 clear hWe hc
 obtain ⟨w1, hw1⟩ : ∃ w1, w1 = (w || !aliasOk n) := ⟨_, rfl⟩
 rw [← hw1]
 have hNt := stext_told (wordM u)
 have hNl := stext_told (lastM n.name)
 have hNs := stext_told (spaceM n.name)
 obtain ⟨o1, h1⟩ : ∃ o1, o1 = [(aType, textJ (wordM u))] := ⟨_, rfl⟩
 obtain ⟨o2, h2⟩ : ∃ o2, o2 = o1 ++ [(aName, textJ (lastM n.name))] := ⟨_, rfl⟩
 obtain ⟨o3, h3⟩ : ∃ o3, o3 = o2 ++ [(aSpace, textJ (spaceM n.name))] := ⟨_, rfl⟩
 have l1 : o1.length ≤ 1 := by rw [h1]; simp
 have l2 : o2.length ≤ 2 := by rw [h2, List.length_append]; simp; omega
 have l3 : o3.length ≤ 3 := by rw [h3, List.length_append]; simp; omega
 have ho : headO n = putO o3 (decide (0 < n.aliases.length)) aAliases (textsJ n.aliases) := by rw [h3, h2, h1, headO, hu]; rfl
 have p1 := sput_told [] (by simp) true aType (textJ (wordM u))
 rw [putO_true, List.nil_append, ← h1] at p1
 have p2 := sput_told o1 (by omega) true aName (textJ (lastM n.name))
 rw [putO_true, ← h2] at p2
 have p3 := sput_told o2 (by omega) true aSpace (textJ (spaceM n.name))
 rw [putO_true, ← h3] at p3
 have p4 := sput_told o3 (by omega) (decide (0 < n.aliases.length)) aAliases (textsJ n.aliases)
 rw [← ho] at p4
 have hol : (headO n).length ≤ 4 := by rw [ho]; have := (putO_len o3 (decide (0 < n.aliases.length)) aAliases (textsJ n.aliases)).2; omega
 have hnj : nodeJ n X = (if n.kind = 9 then objJ (headO n ++ [(aFields, listJ (fieldsJ n.fields X n.fields.length))]) else if n.kind = 10 then objJ (putO (headO n ++ [(aSymbols, textsJ n.symbols)]) n.has aDefault (textJ n.dflt)) else objJ (headO n ++ [(aSize, .mk 3 n.size [] [] [])])) := by
  unfold nodeJ
  rcases hk with h | h | h <;> rw [h] <;> rfl
 rw [hnj]
 clear h1 h2 h3 ho hnj
 generalize headO n = o4 at *
 generalize textJ (wordM u) = y1 at *
 generalize textJ (lastM n.name) = y2 at *
 generalize textJ (spaceM n.name) = y3 at *
 generalize textsJ n.aliases = y4 at *
 have hgt : decide (0 < n.aliases.length) = decide ((n.aliases.length : Int) > 0) := by
  rw [decide_eq_decide]; omega
 rw [hgt] at p4
 obtain ⟨b3, hb3⟩ : ∃ b3, b3 = decide ((n.aliases.length : Int) > 0) := ⟨_, rfl⟩
 rw [← hb3] at p4
 replace hb3 := hb3.symm
 clear hgt
 simp only [JT.av_eq, ovC, ovJ, ovK, ovI, putF, rA_nil, List.length_nil, List.map_nil, str_aName, str_aType, str_aAliases, str_aSpace] at hNt hNl hNs p1 p2 p3 p4
 refine walkG ?_
 refine walkL [] (hO) ?_
 refine walkGF (And.intro @ncells_mk hu) ?_
 refine walkC (hWd) ?_
 refine walkG ?_
 refine walkC (hNt) ?_
 refine walkG ?_
 refine walkLF (And.intro @rA_len @rA_ren) [808, 809, 810, 811] (p1) ?_
 refine walkGF (And.intro @rA_len (And.intro @rA_ren @ncells_mk)) ?_
 refine walkC (hLa) ?_
 refine walkGF (And.intro @rA_len (And.intro @rA_ren @ncells_mk)) ?_
 refine walkC (hNl) ?_
 refine walkGF (And.intro @rA_len (And.intro @rA_ren @ncells_mk)) ?_
 refine walkLF (And.intro @rA_len @rA_ren) [808, 809, 810, 811] (p2) ?_
 refine walkGF (And.intro @rA_len (And.intro @rA_ren @ncells_mk)) ?_
 refine walkC (hNs) ?_
 refine walkGF (And.intro @rA_len (And.intro @rA_ren @ncells_mk)) ?_
 refine walkLF (And.intro @rA_len @rA_ren) [808, 809, 810, 811] (p3) ?_
 refine walkGF (And.intro @rA_len (And.intro @rA_ren (And.intro @ncells_mk hb3))) ?_
 refine walkC (hA) ?_
 refine walkGF (And.intro @rA_len (And.intro @rA_ren (And.intro @ncells_mk hb3))) ?_
 refine walkLF (And.intro @rA_len @rA_ren) [808, 809, 810, 811] (p4) ?_
 clear p1 p2 p3 p4 hNt hNl hNs hA hO hSp hLa hWd
 refine walkGF (And.intro @rA_len (And.intro @rA_ren @ncells_mk)) ?_
 refine VC.cond (by rfl) (by trivial) (fun h9 => ?_) (fun h9 => ?_)
 · have hk9 : n.kind = 9 := by simpa using h9
   rw [if_pos hk9]
   have hkn : kidsN n = n.fields.map (·.type) := by unfold kidsN; rw [if_pos hk9]
   have hNl := slist_nil
   refine walkG ?_
   refine walkC (hNl) ?_
   refine walkGF (And.intro @rA_len (And.intro @rA_ren @ncells_mk)) ?_
   obtain ⟨V, hV⟩ : ∃ V : Nat → Bool, V = fun i => w1 || !oksM K i := ⟨_, rfl⟩
   have hV0 : V 0 = w1 := by rw [hV]; simp [oksM]
   have hVn : ∀ i, V (i + 1) = (V i || !K i) := fun i => by rw [hV]; simp only [oksM]; cases w1 <;> cases oksM K i <;> simp
   have hkl : (kidsN n).length = n.fields.length := by rw [hkn]; simp
   have hVe : (w || !(aliasOk n && oksM K (kidsN n).length)) = V n.fields.length := by rw [hV, hw1]; simp only []; rw [hkl]; cases w <;> cases aliasOk n <;> simp
   rw [hVe, hkl]
   clear hV hVe hw1
   refine VC.nilH 1096 3 36 5 ⟨false, 36, 5, [[.c (.v (.int .i64 5)), .c (.v (.int .i64 0)), .c (.v (.string ⟨#[]⟩)), .c (.v (.slice none 0 0)), .c (.v (.slice none 0 0))]]⟩ [.c (.v (.int .i64 5)), .c (.v (.int .i64 0)), .c (.v (.string ⟨#[]⟩)), .c (.v (.slice none 0 0)), .c (.v (.slice none 0 0))] rfl rfl rfl rfl (by rfl) ?_
   refine VC.loop (ι := {i : Nat // i ≤ n.fields.length}) (fun q => [(0, .ref 1000000 1 0 0), (4, .ref 8 1 0 0), (5, .c (.v (.string (str (spaceM n.name))))), (8, .ref 809 1 0 0), (9, .fn (.func 143) [] [.ref 808 1 0 0]), (10, .ref 1096 1 0 0), (80, .c (.sl 9 (n.fields.map FT.cells))), (81, .c (.v (.int .i64 (n.fields.length : Int)))), (82, .c (.v (.int .i64 (q.1 : Int))))])
    (fun q => [(8, ⟨false, 36, 5, [[.c (.v (.int .i64 0)), .c (.v (.int .i64 0)), .c (.v (.string ⟨#[]⟩)), .c (.v (.slice none 0 0)), .c (.v (.slice none 0 0))]]⟩),
     (808, ⟨false, 128, 1, [[.ref 809 1 0 0]]⟩), (809, ⟨false, 36, 5, [[.c (.v (.int .i64 6)), .c (.v (.int .i64 0)), .c (.v (.string ⟨#[]⟩)), .row 811 o4.length, .row 810 o4.length]]⟩),
     (810, ⟨true, 9, 1, rA sPV (o4.map Prod.fst)⟩), (811, ⟨true, 36, 5, rA JT.cells (o4.map Prod.snd)⟩),
     (1096, ⟨false, 36, 5, [[.c (.v (.int .i64 5)), .c (.v (.int .i64 0)), .c (.v (.string ⟨#[]⟩)), .row 1144 q.1, .c (.v (.slice none 0 0))]]⟩), (1144, ⟨true, 36, 5, rA JT.cells (fieldsJ n.fields X q.1)⟩),
     (1000000, ⟨false, 88, 4, [[.c (.sl 10 (ns.map NT.cells)), .c (.v (.int .i64 r)), .row 1000001 m, .c (.v (.bool (V q.1)))]]⟩), (1000001, ⟨true, 4, 1, rA blP (Mk q.1)⟩)]) 1600 (fun q => n.fields.length - q.1) ⟨0, Nat.zero_le _⟩ ?_ ?_
   · simp only [rA_len, rA_sc, rA_nil, rA_ren, hM0, hV0, fieldsJ, List.length_map, Weak, eq_self, used_is, sc_any, sc_c, sc_pp, sc_ref, sc_row, sc_agg, sc_fn, ScL, some_imp, List.forall_mem_map, go_sem, Int.reduceBEq, Int.reduceLE, Int.reduceLT, Int.reduceNeg, Nat.reduceAdd, Nat.reduceEqDiff, Nat.reduceLT, Nat.reduceLeDiff, Nat.reduceMul, Nat.reduceSub, reduceCtorEq, ↓reduceIte]
     try simp
   clear hNl
   rintro ⟨i, hi⟩
   simp only []
   have hMi := hM i
   have hfi := fieldsJ_len n.fields X i hi
   refine walkG ?_
   refine VC.cond (by rfl) (by trivial) (fun hd => ?_) (fun hd => ?_)
   · have hlt : i < n.fields.length := by simp at hd; omega
     obtain ⟨f, hf⟩ : ∃ f, n.fields[i]? = some f := ⟨n.fields[i], List.getElem?_eq_getElem hlt⟩
     have hfp : (n.fields.map FT.cells)[i]? = some f.cells := by rw [List.getElem?_map, hf]; rfl
     have hw : IntKind.i64.wrap ((i : Int) + 1) = (i : Int) + 1 := wrap64_id (by omega) (by omega)
     have hF := sfield_told ns r m f (hfl.2 f (List.mem_of_getElem? hf)) (spaceM n.name) (Mk i) (Mk (i + 1)) (hM i) (hM (i + 1)) (V i) (V (i + 1)) (X i) (by
      rw [hVn]
      exact hT i f.type (by rw [hkn, List.getElem?_map, hf]; rfl) (V i))
     have hap := fields_next (X := X) hf
     have hM1 := hM (i + 1)
     have hf1 := fieldsJ_len n.fields X (i + 1) (by omega)
     rw [FT.av_eq, JT.av_eq] at hF
     generalize objJ (fieldO f (X i)) = y at hF hap
     unfold shB mB at hF
     refine walkGF (And.intro hfp (And.intro @len_fcells (And.intro @take_fcells @take_fcellsC))) ?_
     refine walkLF (And.intro @rA_len (And.intro @rA_ren (And.intro hMi hM1))) [1000000, 1000001] (hF) ?_
     refine walkGF (And.intro @rA_len (And.intro @rA_ren (And.intro hMi (And.intro hM1 (And.intro hfi (And.intro @len_cells (And.intro @take_cells (And.intro @take_cellsC (And.intro hap hw))))))))) ?_
     refine .next ⟨i + 1, by omega⟩ ?_ (by simp only []; omega)
     simp only [rA_len, rA_sc, rA_ren, hM1, hf1, List.length_map, Weak, eq_self, used_is, sc_any, sc_c, sc_pp, sc_ref, sc_row, sc_agg, sc_fn, ScL, some_imp, List.forall_mem_map, go_sem, Int.reduceBEq, Int.reduceLE, Int.reduceLT, Int.reduceNeg, Nat.reduceAdd, Nat.reduceEqDiff, Nat.reduceLT, Nat.reduceLeDiff, Nat.reduceMul, Nat.reduceSub, reduceCtorEq, ↓reduceIte]
     try exact cI (by omega)
     try simp
   · have hie : i = n.fields.length := by simp at hd; omega
     subst hie
     have pF := sput_told o4 (by omega) true aFields (listJ (fieldsJ n.fields X n.fields.length))
     rw [putO_true] at pF
     simp only [JT.av_eq, ovC, ovJ, ovK, ovI, putF, str_aFields] at pF
     refine VC.frz [1144] [(4, .ref 8 1 0 0), (8, .ref 809 1 0 0), (9, .fn (.func 143) [] [.ref 808 1 0 0]), (10, .ref 1096 1 0 0)]
      [(8, ⟨false, 36, 5, [[.c (.v (.int .i64 0)), .c (.v (.int .i64 0)), .c (.v (.string ⟨#[]⟩)), .c (.v (.slice none 0 0)), .c (.v (.slice none 0 0))]]⟩),
      (808, ⟨false, 128, 1, [[.ref 809 1 0 0]]⟩), (809, ⟨false, 36, 5, [[.c (.v (.int .i64 6)), .c (.v (.int .i64 0)), .c (.v (.string ⟨#[]⟩)), .row 811 o4.length, .row 810 o4.length]]⟩),
      (810, ⟨true, 9, 1, rA sPV (o4.map Prod.fst)⟩), (811, ⟨true, 36, 5, rA JT.cells (o4.map Prod.snd)⟩),
      (1096, ⟨false, 36, 5, [(listJ (fieldsJ n.fields X n.fields.length)).cells.map .c]⟩),
      (1000000, ⟨false, 88, 4, [[.c (.sl 10 (ns.map NT.cells)), .c (.v (.int .i64 r)), .row 1000001 m, .c (.v (.bool (V n.fields.length)))]]⟩), (1000001, ⟨true, 4, 1, rA blP (Mk n.fields.length)⟩)] 3000 ?_ ?_
     · simp only [rA_sc, rA_len, hMi, List.length_map, WeakF, used_is, sc_any, sc_c, sc_pp, sc_ref, sc_row, sc_agg, sc_fn, ScL, some_imp, List.forall_mem_map, go_sem, Int.reduceBEq, Int.reduceLE, Int.reduceLT, Int.reduceNeg, Nat.reduceAdd, Nat.reduceEqDiff, Nat.reduceLT, Nat.reduceLeDiff, Nat.reduceMul, Nat.reduceSub, reduceCtorEq, ↓reduceIte]
       rw [listJ, cells_mk]
       refine ⟨⟨.same _, .same _, .same _, .same _⟩, ⟨.same _, .same _, .same _, .same _, .same _, .one (.cons (.same _) (.cons (.same _) (.cons (.same _) (.cons (.row (B := ⟨true, 36, 5, rA JT.cells (fieldsJ n.fields X n.fields.length)⟩) (es := (fieldsJ n.fields X n.fields.length).map JT.cells) (by simp) rfl rfl ((rA_len _ _).trans hfi) (rA_pv _ _)) (.cons (.nil 1) .nil))))) (by simp [AV.cellish]), .same _, .same _⟩, ?_⟩
       simp
     generalize listJ (fieldsJ n.fields X n.fields.length) = y at pF ⊢
     generalize o4 ++ [(aFields, y)] = o at pF ⊢
     rw [objJ, cells_mk]
     refine walkGF (And.intro @len_cells (And.intro @take_cells @take_cellsC)) ?_
     refine walkLF (And.intro @rA_len @rA_ren) [808, 809, 810, 811] (pF) ?_
     refine walkGF (And.intro @rA_len @rA_ren) ?_
     refine retXF (And.intro @rA_ren (And.intro @rA_len hMi)) Tryz.results85 ?_
     exact Frz.aggL (.cons (.c _) (.cons (.c _) (.cons (.c _) (.cons (frz_rA (f := JT.cells) (l := o.map Prod.snd) (T := 36) rfl (by simp) rfl fun x _ => len_cells x) (.cons (frz_rA (f := sPV) (l := o.map Prod.fst) (T := 9) rfl (by simp) rfl fun x _ => rfl) .nil)))))
 have hk9 : ¬ n.kind = 9 := by simpa using h9
 rw [if_neg hk9]
 have hkn : kidsN n = [] := by unfold kidsN; rw [if_neg hk9, if_neg (by omega), if_neg (by omega)]
 rw [hkn, List.length_nil, show (w || !(aliasOk n && oksM K 0)) = w1 by rw [hw1, oksM, Bool.and_true]]
 by_cases h10 : n.kind = 10
 · rw [if_pos h10]
   have e10 : (n.kind == 10) = true := by simpa using h10
   have hSy := stexts_told n.symbols hsl
   have hDf := stext_told n.dflt
   have pS := sput_told o4 (by omega) true aSymbols (textsJ n.symbols)
   have pD := sput_told (o4 ++ [(aSymbols, textsJ n.symbols)]) (by simp; omega) n.has aDefault (textJ n.dflt)
   rw [putO_true] at pS
   generalize textsJ n.symbols = x1 at *
   generalize textJ n.dflt = x2 at *
   generalize o4 ++ [(aSymbols, x1)] = o5 at *
   generalize putO o5 n.has aDefault x2 = o at *
   simp only [JT.av_eq, ovC, ovJ, ovK, ovI, putF, str_aSymbols, str_aDefault] at pS pD hSy hDf
   rw [objJ, cells_mk]
   refine walkBF (And.intro @ncells_mk (And.intro e10 (And.intro @rA_len @rA_ren))) ?_
   refine walkC (hSy) ?_
   refine walkGF (And.intro @ncells_mk (And.intro @rA_len @rA_ren)) ?_
   refine walkLF (And.intro @rA_len @rA_ren) [808, 809, 810, 811] (pS) ?_
   refine walkGF (And.intro @ncells_mk (And.intro @rA_len @rA_ren)) ?_
   refine walkC (hDf) ?_
   refine walkGF (And.intro @ncells_mk (And.intro @rA_len @rA_ren)) ?_
   refine walkLF (And.intro @rA_len @rA_ren) [808, 809, 810, 811] (pD) ?_
   refine walkGF (And.intro @rA_len @rA_ren) ?_
   refine retXF (And.intro @rA_ren (And.intro @rA_len hM0)) Tryz.results85 ?_
   exact Frz.aggL (.cons (.c _) (.cons (.c _) (.cons (.c _) (.cons (frz_rA (f := JT.cells) (l := o.map Prod.snd) (T := 36) rfl (by simp) rfl fun x _ => len_cells x) (.cons (frz_rA (f := sPV) (l := o.map Prod.fst) (T := 9) rfl (by simp) rfl fun x _ => rfl) .nil)))))
 · rw [if_neg h10]
   have e10 : (n.kind == 10) = false := by simpa using h10
   have pS := sput_told o4 (by omega) true aSize (.mk 3 n.size [] [] [])
   rw [putO_true] at pS
   generalize o4 ++ [(aSize, JT.mk 3 n.size [] [] [])] = o at *
   simp only [JT.av_eq, ovC, ovJ, ovK, ovI, putF, str_aSize] at pS
   have pZ : ToldM Tryz.prog _ [_, _, .agg [.c (.v (.int .i64 3)), .c (.v (.int .i64 n.size)), .c (.v (.string ⟨#[]⟩)), .c (.v (.slice none 0 0)), .c (.v (.slice none 0 0))], _] _ _ _ :=
    pS.co (.cons (.same _) (.cons (.same _) (.cons (Co.aggL (.cons (.same _) (.cons (.same _) (.cons (.same _) (.cons (.nil 5) (.cons (.nil 1) .nil)))))) (.cons (.same _) .nil))))
   clear pS
   rw [objJ, cells_mk]
   refine walkBF (And.intro @ncells_mk (And.intro e10 (And.intro @rA_len @rA_ren))) ?_
   refine walkLF (And.intro @rA_len @rA_ren) [808, 809, 810, 811] (pZ) ?_
   refine walkGF (And.intro @rA_len @rA_ren) ?_
   refine retXF (And.intro @rA_ren (And.intro @rA_len hM0)) Tryz.results85 ?_
   exact Frz.aggL (.cons (.c _) (.cons (.c _) (.cons (.c _) (.cons (frz_rA (f := JT.cells) (l := o.map Prod.snd) (T := 36) rfl (by simp) rfl fun x _ => len_cells x) (.cons (frz_rA (f := sPV) (l := o.map Prod.fst) (T := 9) rfl (by simp) rfl fun x _ => rfl) .nil)))))

def ShowOk (ns : List NT) : Prop := ∀ n ∈ ns, (1 ≤ n.kind ∧ n.kind ≤ 14) ∧ n.name.length ≤ 1000000 ∧ (n.aliases.length ≤ 1000000 ∧ ∀ a ∈ n.aliases, a.length ≤ 1000000) ∧ (n.fields.length ≤ 1000000 ∧ ∀ f ∈ n.fields, f.aliases.length ≤ 1000000) ∧ n.symbols.length ≤ 1000000 ∧ n.branches.length ≤ 1000000
theorem stree_met (ns : List NT) (r : Int) (hk : ShowOk ns) (d q p : Nat) (hlt : q < p) (hnm : namedK (kindAt ns q) = true) (a : List UInt8) (w : Bool) :
  ToldM Tryz.prog 51 [.ref 1000000 1 0 0, .c (.v (.int .i64 (q : Int))), .c (.v (.string (str a)))] [shB ns r ns.length w, mB (mkL ns p)] [some (shB ns r ns.length (w || !okTr ns d q p a)), some (mB (mkL ns (plN ns d q p)))] (treeN ns d q p).av := by
 obtain ⟨n, hn⟩ : ∃ n, ns[q]? = some n := by
  unfold kindAt at hnm
  cases hq : ns[q]? with
  | none => rw [hq] at hnm; simp [namedK] at hnm
  | some n => exact ⟨n, rfl⟩
 have hq1 := (List.getElem?_eq_some_iff.1 hn).1
 obtain ⟨⟨k1, k2⟩, hnl, _⟩ := hk n (List.mem_of_getElem? hn)
 rw [kindAt, hn] at hnm
 simp only [] at hnm
 rw [okTr_met _ _ _ _ _ hlt, plN_met _ _ _ _ hlt, treeN_met _ _ _ _ hlt, nmAt, hn]
 simp only []
 have hSp := space_told n.name (by omega)
 have hTx := stext_told n.name
 have hNm := named_told n.kind
 rw [hnm] at hNm
 have hM := mkL_len ns p
 have hat := mkL_at hn p
 rw [hnm] at hat
 have hme : (rA blP (mkL ns p))[q]? = some [.c (.v (.bool true))] := by
  rw [rA_at hat, decide_eq_true hlt]
  rfl
 generalize mkL ns p = M at *
 have k8 : decide (n.kind ≤ 8) = false := by
  simp only [namedK, Bool.or_eq_true, beq_iff_eq] at hnm
  simp
  omega
 have hxp : (ns.map NT.cells)[q]? = some n.cells := by rw [List.getElem?_map, hn]; rfl
 have e1 := str_none a
 have e2 := str_none (spaceM n.name)
 unfold nameOk
 simp only [JT.av_eq] at hTx ⊢
 generalize textJ n.name = y at *
 generalize hz : (spaceM n.name).isEmpty = z at *
 cases w with
 | true =>
   rw [Bool.true_or]
   unfold shB mB
   refine VC.toldXF (And.intro @rA_len (And.intro @rA_sc hM)) ent_51 [] Tryz.func51 rfl Tryz.ntmps51 fun hb hbL => ?_
   clear hb hbL
   refine walkBF (And.intro @rA_len (And.intro hM (And.intro hxp (And.intro @ncells_mk k8)))) ?_
   refine walkC (hNm) ?_
   refine walkBF (And.intro @rA_len (And.intro hM (And.intro hme @ncells_mk))) ?_
   refine walkC (hTx) ?_
   refine walkBF (And.intro @rA_len (And.intro hM (And.intro @len_cells (And.intro @take_cells @take_cellsC)))) ?_
   refine retXF (And.intro @rA_len (And.intro @rA_ren (And.intro hM (And.intro @len_cells @take_cellsC)))) Tryz.results51 ?_
   exact Frz.cs _ _
 | false =>
   cases hae : a.isEmpty with
   | true =>
     rw [hae] at e1
     rw [Bool.true_or]
     unfold shB mB
     refine VC.toldXF (And.intro @rA_len (And.intro @rA_sc hM)) ent_51 [] Tryz.func51 rfl Tryz.ntmps51 fun hb hbL => ?_
     clear hb hbL
     refine walkBF (And.intro @rA_len (And.intro hM (And.intro hxp (And.intro @ncells_mk k8)))) ?_
     refine walkC (hNm) ?_
     refine walkBF (And.intro @rA_len (And.intro hM (And.intro hme (And.intro @ncells_mk e1)))) ?_
     refine walkC (hTx) ?_
     refine walkBF (And.intro @rA_len (And.intro hM (And.intro @len_cells (And.intro @take_cells @take_cellsC)))) ?_
     refine retXF (And.intro @rA_len (And.intro @rA_ren (And.intro hM (And.intro @len_cells @take_cellsC)))) Tryz.results51 ?_
     exact Frz.cs _ _
   | false =>
     rw [hae] at e1
     rw [Bool.false_or, Bool.false_or, Bool.not_not]
     unfold shB mB
     refine VC.toldXF (And.intro @rA_len (And.intro @rA_sc hM)) ent_51 [] Tryz.func51 rfl Tryz.ntmps51 fun hb hbL => ?_
     clear hb hbL
     refine walkBF (And.intro @rA_len (And.intro hM (And.intro hxp (And.intro @ncells_mk k8)))) ?_
     refine walkC (hNm) ?_
     refine walkBF (And.intro @rA_len (And.intro hM (And.intro hme (And.intro @ncells_mk e1)))) ?_
     refine walkCF (e1) (hSp) ?_
     refine walkBF (And.intro @rA_len (And.intro hM (And.intro hme (And.intro @ncells_mk (And.intro e1 e2))))) ?_
     refine walkC (hTx) ?_
     refine walkBF (And.intro @rA_len (And.intro hM (And.intro @len_cells (And.intro @take_cells @take_cellsC)))) ?_
     refine retXF (And.intro @rA_len (And.intro @rA_ren (And.intro hM (And.intro @len_cells @take_cellsC)))) Tryz.results51 ?_
     exact Frz.cs _ _

theorem brs_next (X : Nat → JT) (i : Nat) : rA JT.cells (brsJ X i) ++ [(X i).cells.map .c] = rA JT.cells (brsJ X (i + 1)) := by
 rw [brsJ]
 simp [rA]
theorem brsJ_len (X : Nat → JT) : ∀ i, (brsJ X i).length = i
 | 0 => rfl
 | i + 1 => by rw [brsJ, List.length_append, brsJ_len X i]; rfl
theorem stree_told (ns : List NT) (r : Int) (hk : ShowOk ns) (hns : ns.length ≤ 1000000) : ∀ (d : Nat) (k : Int) (p : Nat), KidAt ns d k p → ∀ (a : List UInt8) (w : Bool),
  ToldM Tryz.prog 51 [.ref 1000000 1 0 0, .c (.v (.int .i64 k)), .c (.v (.string (str a)))] [shB ns r ns.length w, mB (mkL ns p)] [some (shB ns r ns.length (w || !okTr ns d k.toNat p a)), some (mB (mkL ns (plN ns d k.toNat p)))] (treeN ns d k.toNat p).av := by
 intro d
 induction d with
 | zero =>
   intro k p hkid a w
   obtain ⟨q, rfl⟩ : ∃ q : Nat, k = (q : Int) := ⟨k.toNat, by have := hkid.1; omega⟩
   rw [Int.toNat_natCast]
   obtain ⟨h0, h | ⟨hlt, hnm⟩⟩ := hkid
   · have h := h.2
     rw [walkM] at h
     simp at h
   · rw [Int.toNat_natCast] at hlt hnm
     exact stree_met ns r hk 0 q p hlt hnm a w
 | succ d ih =>
 intro k p hkid a w
 obtain ⟨q, rfl⟩ : ∃ q : Nat, k = (q : Int) := ⟨k.toNat, by have := hkid.1; omega⟩
 rw [Int.toNat_natCast]
 obtain ⟨h0, h | h⟩ := hkid
 rotate_left
 · rw [Int.toNat_natCast] at h
   exact stree_met ns r hk (d + 1) q p h.1 h.2 a w
 obtain ⟨hqp, hw⟩ := h
 rw [Int.toNat_natCast] at hqp
 subst hqp
 rw [walkM] at hw
 obtain ⟨n, hn⟩ : ∃ n, ns[q]? = some n := by
  cases hq : ns[q]? with
  | none => rw [hq] at hw; simp at hw
  | some n => exact ⟨n, rfl⟩
 rw [hn] at hw
 simp only [] at hw
 have hq1 := (List.getElem?_eq_some_iff.1 hn).1
 obtain ⟨⟨k1, k2⟩, hnl, hal, hfl, hsl, hbl⟩ := hk n (List.mem_of_getElem? hn)
 have hpl := (walkK_plc (pl_place ns d) (kidsN n) (q + 1) _ (Prod.ext hw rfl)).2
 clear hw
 rw [treeN_new ns d q n hn, okTr_new ns d q n a hn, plN_new ns d q n hn]
 obtain ⟨P, hP⟩ : ∃ P : Nat → Nat, P = fun i => plK (plN ns d) ((kidsN n).take i) (q + 1) := ⟨_, rfl⟩
 obtain ⟨X, hX⟩ : ∃ X, X = kidJ (treeN ns d) (plN ns d) (kidsN n) (q + 1) := ⟨_, rfl⟩
 obtain ⟨K, hK⟩ : ∃ K, K = kidOk (okTr ns d) (plN ns d) (kidsN n) (q + 1) (aroundM n a) := ⟨_, rfl⟩
 have hP0 : P 0 = q + 1 := by rw [hP]; rfl
 have hPe : plK (plN ns d) (kidsN n) (q + 1) = P (kidsN n).length := by
  rw [hP]
  simp only []
  rw [List.take_length]
 have hT : ∀ (i : Nat) (k : Int), (kidsN n)[i]? = some k → ∀ w,
   ToldM Tryz.prog 51 [.ref 1000000 1 0 0, .c (.v (.int .i64 k)), .c (.v (.string (str (aroundM n a))))] [shB ns r ns.length w, mB (mkL ns (P i))] [some (shB ns r ns.length (w || !K i)), some (mB (mkL ns (P (i + 1))))] (X i).av := fun i k hki w => by
  have e1 : X i = treeN ns d k.toNat (P i) := by rw [hX, kidJ, hki, hP]
  have e2 : P (i + 1) = plN ns d k.toNat (P i) := by rw [hP]; exact plK_take _ _ _ _ _ hki
  have e3 : K i = okTr ns d k.toNat (P i) (aroundM n a) := by rw [hK, kidOk, hki, hP]
  rw [e1, e2, e3]
  have := hpl i k hki
  rw [show plK (plN ns d) ((kidsN n).take i) (q + 1) = P i by rw [hP]] at this
  exact ih k (P i) this _ w
 rw [hPe, ← hX, ← hK]
 clear hP hX hK hPe hpl ih
 have hxp : (ns.map NT.cells)[q]? = some n.cells := by rw [List.getElem?_map, hn]; rfl
 have hNm := named_told n.kind
 by_cases h8 : n.kind ≤ 8
 · have hnm : namedK n.kind = false := by
    cases hb : namedK n.kind with
    | false => rfl
    | true =>
      simp only [namedK, Bool.or_eq_true, beq_iff_eq] at hb
      omega
   have hkn : kidsN n = [] := by unfold kidsN; rw [if_neg (by omega), if_neg (by omega), if_neg (by omega)]
   have hso : selfOk n = true := by unfold selfOk; rw [hnm]; rfl
   rw [hkn, List.length_nil, hP0, mkL_plain hn hnm, hso, show oksM K 0 = true from rfl, Bool.and_true, Bool.not_true, Bool.or_false]
   obtain ⟨u, hu⟩ : ∃ u : Nat, n.kind = (u : Int) := ⟨n.kind.toNat, by omega⟩
   have hnj : nodeJ n X = textJ (wordM u) := by
    unfold nodeJ
    rw [if_neg (by omega), if_neg (by omega), if_neg (by omega), if_neg (by omega), if_neg (by omega), if_neg (by omega), hu, Int.toNat_natCast]
   rw [hnj]
   have hWd := word_told u (by omega)
   have hTx := stext_told (wordM u)
   have hM := mkL_len ns q
   generalize mkL ns q = M at *
   generalize textJ (wordM u) = y at *
   generalize wordM u = wd at *
   have k8 : decide ((u : Int) ≤ 8) = true := by simp; omega
   simp only [JT.av_eq] at hTx ⊢
   unfold shB mB
   refine VC.toldXF (And.intro @rA_len (And.intro @rA_sc hM)) ent_51 [] Tryz.func51 rfl Tryz.ntmps51 fun hb hbL => ?_
   clear hb hbL
   refine walkBF (And.intro @rA_len (And.intro hM (And.intro hxp (And.intro @ncells_mk (And.intro hu k8))))) ?_
   refine walkC (hWd) ?_
   refine walkBF (And.intro @rA_len hM) ?_
   refine walkC (hTx) ?_
   refine walkBF (And.intro @rA_len (And.intro hM (And.intro @len_cells (And.intro @take_cells @take_cellsC)))) ?_
   refine retXF (And.intro @rA_len (And.intro @rA_ren (And.intro hM (And.intro @len_cells @take_cellsC)))) Tryz.results51 ?_
   exact Frz.cs _ _
 have k8 : decide (n.kind ≤ 8) = false := by simp; omega
 by_cases hnm : namedK n.kind = true
 · rw [hnm] at hNm
   have hat := mkL_at hn q
   rw [hnm] at hat
   have hme : (rA blP (mkL ns q))[q]? = some [.c (.v (.bool false))] := by
    rw [rA_at hat]
    simp [blP]
   have hst : (rA blP (mkL ns q)).set q [.c (.v (.bool true))] = rA blP (mkL ns (q + 1)) := by
    rw [mkL_mark hn hnm, ← rA_set]
    rfl
   have hso : selfOk n = aliasOk n := by unfold selfOk; rw [hnm]; rfl
   have hkk : n.kind = 9 ∨ n.kind = 10 ∨ n.kind = 14 := by
    simp only [namedK, Bool.or_eq_true, beq_iff_eq] at hnm
    omega
   have hnd := snamed_told ns r ns.length n hkk hnl hal hfl hsl (fun i => mkL ns (P i)) (fun i => mkL_len ns (P i)) K X w (fun i k hki w => by
    have h9 : n.kind = 9 := by
     apply Classical.byContradiction
     intro h9
     unfold kidsN at hki
     rw [if_neg h9, if_neg (by omega), if_neg (by omega)] at hki
     simp at hki
    have := hT i k hki w
    rw [show aroundM n a = spaceM n.name by unfold aroundM; rw [if_pos h9]] at this
    exact this)
   rw [hso]
   rw [hP0] at hnd
   have hM := mkL_len ns q
   have hM1 := mkL_len ns (q + 1)
   have hM2 := mkL_len ns (P (kidsN n).length)
   generalize mkL ns (q + 1) = M1 at *
   generalize mkL ns (P (kidsN n).length) = M2 at *
   generalize mkL ns q = M at *
   generalize (w || !(aliasOk n && oksM K (kidsN n).length)) = w2 at *
   generalize nodeJ n X = y at *
   rw [NT.av_eq, ncells_mk, JT.av_eq] at hnd
   rw [JT.av_eq]
   unfold shB mB at *
   clear hT
   refine VC.toldXF (And.intro @rA_len (And.intro @rA_sc (And.intro hM hM2))) ent_51 [] Tryz.func51 rfl Tryz.ntmps51 fun hb hbL => ?_
   clear hb hbL
   refine walkBF (And.intro @rA_len (And.intro hM (And.intro hxp (And.intro @ncells_mk k8)))) ?_
   refine walkC (hNm) ?_
   refine walkBF (And.intro @rA_len (And.intro hM hme)) ?_
   refine walkC (hNm) ?_
   refine walkBF (And.intro @rA_len (And.intro hM (And.intro hme (And.intro hst @ncells_mk)))) ?_
   refine walkLF (And.intro @rA_len (And.intro @rA_ren (And.intro hM (And.intro hM1 hM2)))) [1000000, 1000001] (hnd) ?_
   refine walkBF (And.intro @rA_len (And.intro @rA_ren (And.intro hM2 (And.intro @len_cells (And.intro @take_cells @take_cellsC))))) ?_
   refine retXF (And.intro @rA_len (And.intro @rA_ren (And.intro hM2 (And.intro @len_cells @take_cellsC)))) Tryz.results51 ?_
   exact Frz.cs _ _
 have hnm' : namedK n.kind = false := by simpa using hnm
 rw [hnm'] at hNm
 rw [← mkL_plain hn hnm', ← hP0]
 have hso : selfOk n = true := by unfold selfOk; rw [hnm']; rfl
 rw [hso, Bool.true_and]
 simp only [namedK, Bool.or_eq_true, beq_iff_eq] at hnm
 rw [show aroundM n a = a by unfold aroundM; rw [if_neg (by omega)]] at hT
 obtain ⟨M, hMd⟩ : ∃ M : Nat → List Bool, M = fun i => mkL ns (P i) := ⟨_, rfl⟩
 have hM : ∀ i, (M i).length = ns.length := fun i => by rw [hMd]; exact mkL_len _ _
 rw [show mkL ns (P 0) = M 0 by rw [hMd], show mkL ns (P (kidsN n).length) = M (kidsN n).length by rw [hMd]]
 replace hT : ∀ (i : Nat) (k : Int), (kidsN n)[i]? = some k → ∀ w,
   ToldM Tryz.prog 51 [.ref 1000000 1 0 0, .c (.v (.int .i64 k)), .c (.v (.string (str a)))] [shB ns r ns.length w, mB (M i)] [some (shB ns r ns.length (w || !K i)), some (mB (M (i + 1)))] (X i).av := by
  rw [hMd]
  exact hT
 clear hMd hP0
 have hnj : nodeJ n X = (if n.kind = 13 then listJ (brsJ X n.branches.length) else if n.kind = 11 then objJ [(aType, textJ (wordM 11)), (aItems, X 0)] else objJ [(aType, textJ (wordM 12)), (aValues, X 0)]) := by
  unfold nodeJ
  rw [if_neg (by omega), if_neg (by omega), if_neg (by omega)]
  by_cases h13 : n.kind = 13
  · rw [if_pos h13, if_pos h13]
  · rw [if_neg h13, if_neg h13]
    by_cases h11 : n.kind = 11
    · rw [if_pos h11, if_pos h11]
    · rw [if_neg h11, if_neg h11, if_pos (by omega)]
 rw [hnj]
 clear hnj hso
 have hNl := slist_nil
 by_cases h13 : n.kind = 13
 · rw [if_pos h13]
   have hkn : kidsN n = n.branches := by unfold kidsN; rw [if_neg (by omega), if_neg (by omega), if_pos h13]
   rw [hkn] at hT ⊢
   obtain ⟨V, hV⟩ : ∃ V : Nat → Bool, V = fun i => w || !oksM K i := ⟨_, rfl⟩
   have hV0 : V 0 = w := by rw [hV]; simp [oksM]
   have hVn : ∀ i, V (i + 1) = (V i || !K i) := fun i => by rw [hV]; simp only [oksM]; cases w <;> cases oksM K i <;> simp
   rw [show (w || !oksM K n.branches.length) = V n.branches.length by rw [hV]]
   clear hV
   rw [h13] at hNm k8
   have hM0 := hM 0
   have hMe := hM n.branches.length
   rw [listJ, JT.av_eq, cells_mk]
   unfold shB mB at *
   refine VC.toldXF (And.intro @rA_len (And.intro @rA_sc (And.intro hM0 hMe))) ent_51 [] Tryz.func51 rfl Tryz.ntmps51 fun hb hbL => ?_
   clear hb hbL
   refine walkBF (And.intro @rA_len (And.intro hM0 (And.intro hxp (And.intro @ncells_mk h13)))) ?_
   refine walkC (hNm) ?_
   refine walkBF (And.intro @rA_len hM0) ?_
   refine walkC (hNm) ?_
   refine walkBF (And.intro @rA_len hM0) ?_
   refine walkC (hNl) ?_
   refine walkGF (And.intro @rA_len (And.intro hM0 @ncells_mk)) ?_
   refine VC.nilH 296 3 36 5 ⟨false, 36, 5, [[.c (.v (.int .i64 5)), .c (.v (.int .i64 0)), .c (.v (.string ⟨#[]⟩)), .c (.v (.slice none 0 0)), .c (.v (.slice none 0 0))]]⟩ [.c (.v (.int .i64 5)), .c (.v (.int .i64 0)), .c (.v (.string ⟨#[]⟩)), .c (.v (.slice none 0 0)), .c (.v (.slice none 0 0))] rfl rfl rfl rfl (by rfl) ?_
   refine VC.loop (ι := {i : Nat // i ≤ n.branches.length}) (fun q => [(0, .ref 1000000 1 0 0), (2, .c (.v (.string (str a)))), (6, .ref 0 1 0 0), (8, .ref 296 1 0 0), (82, .c (.sl 1 (n.branches.map iPV))), (83, .c (.v (.int .i64 (n.branches.length : Int)))), (84, .c (.v (.int .i64 (q.1 : Int))))])
    (fun q => [(0, ⟨false, 36, 5, [[.c (.v (.int .i64 0)), .c (.v (.int .i64 0)), .c (.v (.string ⟨#[]⟩)), .c (.v (.slice none 0 0)), .c (.v (.slice none 0 0))]]⟩), (296, ⟨false, 36, 5, [[.c (.v (.int .i64 5)), .c (.v (.int .i64 0)), .c (.v (.string ⟨#[]⟩)), .row 344 q.1, .c (.v (.slice none 0 0))]]⟩), (344, ⟨true, 36, 5, rA JT.cells (brsJ X q.1)⟩),
     (1000000, ⟨false, 88, 4, [[.c (.sl 10 (ns.map NT.cells)), .c (.v (.int .i64 r)), .row 1000001 ns.length, .c (.v (.bool (V q.1)))]]⟩), (1000001, ⟨true, 4, 1, rA blP (M q.1)⟩)]) 800 (fun q => n.branches.length - q.1) ⟨0, Nat.zero_le _⟩ ?_ ?_
   · simp only [rA_len, rA_sc, rA_nil, hM0, hV0, brsJ, List.length_map, Weak, eq_self, used_is, sc_any, sc_c, sc_pp, sc_ref, sc_row, sc_agg, sc_fn, ScL, some_imp, List.forall_mem_map, go_sem, Int.reduceBEq, Int.reduceLE, Int.reduceLT, Int.reduceNeg, Nat.reduceAdd, Nat.reduceEqDiff, Nat.reduceLT, Nat.reduceLeDiff, Nat.reduceMul, Nat.reduceSub, reduceCtorEq, ↓reduceIte]
     try simp
   clear hNl hV0
   rintro ⟨i, hi⟩
   simp only []
   have hMi := hM i
   have hbi := brsJ_len X i
   refine walkG ?_
   refine VC.cond (by rfl) (by trivial) (fun hc2 => ?_) (fun hc2 => ?_)
   rotate_left
   · obtain rfl : i = n.branches.length := by simp at hc2; omega
     refine walkGF (And.intro @rA_len (And.intro hMi hbi)) ?_
     refine retXF (And.intro @rA_len (And.intro @rA_ren (And.intro hMi hbi))) Tryz.results51 ?_
     exact Frz.aggL (.cons (.c _) (.cons (.c _) (.cons (.c _) (.cons (frz_rA (f := JT.cells) (l := brsJ X n.branches.length) (T := 36) rfl hbi rfl fun x _ => len_cells x) (.cons (.nil 1) .nil)))))
   have hlt : i < n.branches.length := by simp at hc2; omega
   obtain ⟨f, hx⟩ : ∃ f, n.branches[i]? = some f := ⟨n.branches[i], List.getElem?_eq_getElem hlt⟩
   have hxq : (n.branches.map iPV)[i]? = some [.v (.int .i64 f)] := by rw [List.getElem?_map, hx]; rfl
   have hw : IntKind.i64.wrap ((i : Int) + 1) = (i : Int) + 1 := wrap64_id (by omega) (by omega)
   have hTi := hT i f hx (V i)
   rw [← hVn] at hTi
   have hM1 := hM (i + 1)
   have hap := brs_next X i
   have hb1 := brsJ_len X (i + 1)
   rw [JT.av_eq] at hTi
   generalize X i = x at hTi hap
   refine walkGF (hxq) ?_
   refine walkLF (And.intro @rA_len (And.intro @rA_ren (And.intro hMi hM1))) [1000000, 1000001] (hTi) ?_
   refine walkGF (And.intro @rA_len (And.intro @rA_ren (And.intro hMi (And.intro hM1 (And.intro hbi (And.intro @len_cells (And.intro @take_cells (And.intro @take_cellsC (And.intro hap hw))))))))) ?_
   refine .next ⟨i + 1, by omega⟩ ?_ (by simp only []; omega)
   refine weakXF (And.intro @rA_len (And.intro @rA_sc (And.intro @rA_ren (And.intro hM1 hb1)))) ?_
   exact ⟨cI (by omega), Nat.le_refl _, Nat.le_refl _⟩
 rw [if_neg h13]
 clear hNl
 have hkn : kidsN n = [n.items] := by unfold kidsN; rw [if_neg (by omega), if_pos (by omega)]
 rw [hkn] at hT ⊢
 have hT := hT 0 n.items rfl w
 rw [List.length_singleton, show (w || !oksM K 1) = (w || !K 0) by simp [oksM]]
 have hM0 := hM 0
 have hM1 : (M 1).length = ns.length := hM 1
 rw [show (0 : Nat) + 1 = 1 from rfl] at hT
 have hO := sobj_told
 have j13 : (n.kind == 13) = false := by simpa using h13
 by_cases h11 : n.kind = 11
 · rw [if_pos h11]
   rw [h11] at hNm
   have hWd : Told Tryz.prog 83 [.c (.v (.int .i64 11))] (.c (.v (.string (str (wordM 11))))) := word_told 11 (by omega)
   have hTx := stext_told (wordM 11)
   have p1 := sput_told [] (by simp) true aType (textJ (wordM 11))
   rw [putO_true, List.nil_append] at p1
   have p2 := sput_told [(aType, textJ (wordM 11))] (by simp) true aItems (X 0)
   rw [putO_true, List.singleton_append] at p2
   generalize [(aType, textJ (wordM 11)), (aItems, X 0)] = o at *
   generalize textJ (wordM 11) = y at *
   generalize wordM 11 = wd at *
   generalize [(aType, y)] = o1 at *
   generalize X 0 = x at *
   simp only [JT.av_eq, ovC, ovJ, ovK, ovI, putF, rA_nil, List.length_nil, List.map_nil, str_aType, str_aItems] at hO hTx p1 p2 hT
   rw [objJ, JT.av_eq, cells_mk]
   unfold shB mB at *
   refine VC.toldXF (And.intro @rA_len (And.intro @rA_sc (And.intro hM0 hM1))) ent_51 [] Tryz.func51 rfl Tryz.ntmps51 fun hb hbL => ?_
   clear hb hbL
   refine walkBF (And.intro @rA_len (And.intro hM0 (And.intro hxp (And.intro @ncells_mk h11)))) ?_
   refine walkC (hNm) ?_
   refine walkBF (And.intro @rA_len hM0) ?_
   refine walkC (hNm) ?_
   refine walkBF (And.intro @rA_len hM0) ?_
   refine walkL [] (hO) ?_
   refine walkBF (@ncells_mk) ?_
   refine walkC (hWd) ?_
   refine walkG ?_
   refine walkC (hTx) ?_
   refine walkG ?_
   refine walkLF (And.intro @rA_len @rA_ren) [320, 321, 322, 323] (p1) ?_
   refine walkGF (And.intro @rA_len (And.intro @rA_ren @ncells_mk)) ?_
   refine walkLF (And.intro @rA_len (And.intro @rA_ren (And.intro hM0 hM1))) [1000000, 1000001] (hT) ?_
   refine walkGF (And.intro @rA_len @rA_ren) ?_
   refine walkLF (And.intro @rA_len @rA_ren) [320, 321, 322, 323] (p2) ?_
   refine walkGF (And.intro @rA_len @rA_ren) ?_
   refine retXF (And.intro @rA_ren (And.intro @rA_len hM1)) Tryz.results51 ?_
   exact Frz.aggL (.cons (.c _) (.cons (.c _) (.cons (.c _) (.cons (frz_rA (f := JT.cells) (l := o.map Prod.snd) (T := 36) rfl (by simp) rfl fun x _ => len_cells x) (.cons (frz_rA (f := sPV) (l := o.map Prod.fst) (T := 9) rfl (by simp) rfl fun x _ => rfl) .nil)))))
 have h12 : n.kind = 12 := by omega
 · rw [if_neg h11]
   rw [h12] at hNm
   have hWd : Told Tryz.prog 83 [.c (.v (.int .i64 12))] (.c (.v (.string (str (wordM 12))))) := word_told 12 (by omega)
   have hTx := stext_told (wordM 12)
   have p1 := sput_told [] (by simp) true aType (textJ (wordM 12))
   rw [putO_true, List.nil_append] at p1
   have p2 := sput_told [(aType, textJ (wordM 12))] (by simp) true aValues (X 0)
   rw [putO_true, List.singleton_append] at p2
   generalize [(aType, textJ (wordM 12)), (aValues, X 0)] = o at *
   generalize textJ (wordM 12) = y at *
   generalize wordM 12 = wd at *
   generalize [(aType, y)] = o1 at *
   generalize X 0 = x at *
   simp only [JT.av_eq, ovC, ovJ, ovK, ovI, putF, rA_nil, List.length_nil, List.map_nil, str_aType, str_aValues] at hO hTx p1 p2 hT
   rw [objJ, JT.av_eq, cells_mk]
   unfold shB mB at *
   refine VC.toldXF (And.intro @rA_len (And.intro @rA_sc (And.intro hM0 hM1))) ent_51 [] Tryz.func51 rfl Tryz.ntmps51 fun hb hbL => ?_
   clear hb hbL
   refine walkBF (And.intro @rA_len (And.intro hM0 (And.intro hxp (And.intro @ncells_mk h12)))) ?_
   refine walkC (hNm) ?_
   refine walkBF (And.intro @rA_len hM0) ?_
   refine walkC (hNm) ?_
   refine walkBF (And.intro @rA_len hM0) ?_
   refine walkL [] (hO) ?_
   refine walkBF (@ncells_mk) ?_
   refine walkC (hWd) ?_
   refine walkG ?_
   refine walkC (hTx) ?_
   refine walkG ?_
   refine walkLF (And.intro @rA_len @rA_ren) [328, 329, 330, 331] (p1) ?_
   refine walkGF (And.intro @rA_len (And.intro @rA_ren @ncells_mk)) ?_
   refine walkLF (And.intro @rA_len (And.intro @rA_ren (And.intro hM0 hM1))) [1000000, 1000001] (hT) ?_
   refine walkGF (And.intro @rA_len @rA_ren) ?_
   refine walkLF (And.intro @rA_len @rA_ren) [328, 329, 330, 331] (p2) ?_
   refine walkGF (And.intro @rA_len @rA_ren) ?_
   refine retXF (And.intro @rA_ren (And.intro @rA_len hM1)) Tryz.results51 ?_
   exact Frz.aggL (.cons (.c _) (.cons (.c _) (.cons (.c _) (.cons (frz_rA (f := JT.cells) (l := o.map Prod.snd) (T := 36) rfl (by simp) rfl fun x _ => len_cells x) (.cons (frz_rA (f := sPV) (l := o.map Prod.fst) (T := 9) rfl (by simp) rfl fun x _ => rfl) .nil)))))

def wB (ns : List NT) (r : Int) (p : Nat) : Blkd := ⟨false, 178, 3, [[.c (.sl 10 (ns.map NT.cells)), .c (.v (.int .i64 r)), .c (.v (.int .i64 (p : Int)))]]⟩
theorem kids_len {n : NT} (h : n.sm 1000000) : (kidsN n).length ≤ 1000000 := by
 unfold kidsN
 have h1 := h.2.2.2.2.1
 have h2 := h.2.2.2.2.2.1
 split
 · simpa using h2
 · split
   · simp
   · split
     · exact h1
     · simp
theorem drop_at' {α : Type} {l : List α} {i : Nat} {x : α} (h : l[i]? = some x) : l.drop i = x :: l.drop (i + 1) := by
 obtain ⟨hlt, rfl⟩ := List.getElem?_eq_some_iff.1 h
 exact List.drop_eq_getElem_cons hlt
theorem walk_told (ns : List NT) (r : Int) (hl : ns.length ≤ 1000000) (hs : ∀ n ∈ ns, n.sm 1000000) : ∀ (d : Nat) (z : Int), z = 33 - (d : Int) → d ≤ 33 → ∀ p : Nat, p ≤ ns.length →
  ToldM Tryz.prog 128 [.ref 1000000 1 0 0, .c (.v (.int .i64 z))] [wB ns r p] [some (wB ns r (walkM ns d p).2)] (.c (.v (.bool (walkM ns d p).1))) := by
 intro d
 induction d with
 | zero =>
   intro z hz hd p hp
   have hz2 : decide (z > 32) = true := by simp; omega
   rw [walkM]
   unfold wB
   refine VC.toldX ent_128 [] Tryz.func128 rfl Tryz.ntmps128 fun hb hbL => ?_
   clear hb hbL
   refine walkGF (hz2) ?_
   refine VC.cond (by rfl) (by trivial) (fun hc => ?_) (fun hc => ?_)
   · refine walkG ?_
     refine retX Tryz.results128 ?_
     exact .c _
   · exact absurd hc (by simp)
 | succ d ih =>
   intro z hz hd p hp
   have hz2 : decide (z > 32) = false := by simp; omega
   have hwz : IntKind.i64.wrap (z + 1) = z + 1 := wrap64_id (by omega) (by omega)
   have hI := ih (z + 1) (by omega) (by omega)
   clear ih
   obtain ⟨R, hR⟩ : ∃ R, R = walkM ns (d + 1) p := ⟨_, rfl⟩
   rw [← hR]
   rw [walkM] at hR
   have hle := walkM_le ns d
   by_cases hlt : p < ns.length
   · obtain ⟨n, hn⟩ : ∃ n, ns[p]? = some n := ⟨ns[p], List.getElem?_eq_getElem hlt⟩
     have hnp : (ns.map NT.cells)[p]? = some n.cells := by rw [List.getElem?_map, hn]; rfl
     have hge : decide ((p : Int) ≥ (ns.length : Int)) = false := by simp; omega
     have hwp : IntKind.i64.wrap ((p : Int) + 1) = ((p + 1 : Nat) : Int) := by rw [wrap64_id (by omega) (by omega)]; rfl
     have hns := hs n (List.mem_of_getElem? hn)
     have hK := kids_told n hns
     have hkl := kids_len hns
     rw [hn] at hR
     simp only [] at hR
     obtain ⟨ks, hks⟩ : ∃ ks, ks = kidsN n := ⟨_, rfl⟩
     rw [← hks] at hK hR hkl
     simp only [NT.av_eq] at hK
     clear hks
     have hKi := hK
     clear hK
     unfold wB at hI ⊢
     refine VC.toldX ent_128 [] Tryz.func128 rfl Tryz.ntmps128 fun hb hbL => ?_
     clear hb hbL
     refine walkGF (And.intro hge hz2) ?_
     refine VC.cond (by rfl) (by trivial) (fun hc => ?_) (fun hc => ?_)
     · exact absurd hc (by simp)
     refine walkGF (And.intro hwp (And.intro hnp (And.intro @len_ncells (And.intro @take_ncells @take_ncellsC)))) ?_
     refine walkCF (@pureL_c) (hKi) ?_
     refine walkG ?_
     clear hKi
     refine VC.loop (ι := {x : Nat × Nat // x.1 ≤ ks.length ∧ x.2 ≤ ns.length ∧ walkK ns (walkM ns d) (ks.drop x.1) x.2 = R})
      (fun q => [(0, .ref 1000000 1 0 0), (1, .c (.v (.int .i64 z))), (6, .fn (.func 128) [.ref 1000000 1 0 0] []), (42, .c (.sl 1 (ks.map iPV))), (43, .c (.v (.int .i64 (ks.length : Int)))), (44, .c (.v (.int .i64 (q.1.1 : Int))))])
      (fun q => [(1000000, ⟨false, 178, 3, [[.c (.sl 10 (ns.map NT.cells)), .c (.v (.int .i64 r)), .c (.v (.int .i64 (q.1.2 : Int)))]]⟩)]) 800 (fun q => ks.length - q.1.1) ⟨(0, p + 1), Nat.zero_le _, hlt, by rw [List.drop_zero]; exact hR.symm⟩ ?_ ?_
     · simp only [Weak, eq_self, used_is, sc_any, sc_c, sc_pp, sc_ref, sc_row, sc_agg, sc_fn, ScL, some_imp, List.forall_mem_map, go_sem, Int.reduceBEq, Int.reduceLE, Int.reduceLT, Int.reduceNeg, Nat.reduceAdd, Nat.reduceEqDiff, Nat.reduceLT, Nat.reduceLeDiff, Nat.reduceMul, Nat.reduceSub, reduceCtorEq, ↓reduceIte]
       try simp
     clear hR
     rintro ⟨⟨i, q⟩, hi, hq, hR⟩
     simp only [] at hi hq hR ⊢
     refine walkG ?_
     refine VC.cond (by rfl) (by trivial) (fun hc2 => ?_) (fun hc2 => ?_)
     · have hil : i < ks.length := by simp at hc2; omega
       obtain ⟨x, hx⟩ : ∃ x, ks[i]? = some x := ⟨ks[i], List.getElem?_eq_getElem hil⟩
       have hxp : (ks.map iPV)[i]? = some (iPV x) := by rw [List.getElem?_map, hx]; rfl
       have hw : IntKind.i64.wrap ((i : Int) + 1) = (i : Int) + 1 := wrap64_id (by omega) (by omega)
       rw [drop_at' hx, walkK] at hR
       by_cases hk : x = (q : Int)
       · rw [if_pos hk] at hR
         have hkq : (x == (q : Int)) = true := by simpa using hk
         have hIq := hI q hq
         have hqb := (hle q hq).2
         obtain ⟨M, hM⟩ : ∃ M, M = walkM ns d q := ⟨_, rfl⟩
         rw [← hM] at hIq hR hqb
         clear hI hM
         refine walkBF (And.intro hxp (And.intro @iPV_eq (And.intro hkq hwz))) ?_
         refine walkL [1000000] (hIq) ?_
         refine walkG ?_
         refine VC.cond (by rfl) (by trivial) (fun hc3 => ?_) (fun hc3 => ?_)
         · have hf : R = (false, M.2) := by
            rw [if_neg (by simpa using hc3)] at hR
            exact hR.symm
           subst hf
           refine walkG ?_
           refine retX Tryz.results128 ?_
           exact .c _
         · rw [if_pos (by simpa using hc3)] at hR
           refine walkGF (hw) ?_
           refine .next ⟨(i + 1, M.2), by simp only []; omega, hqb, hR⟩ ?_ (by simp only []; omega)
           simp only [Weak, eq_self, used_is, sc_any, sc_c, sc_pp, sc_ref, sc_row, sc_agg, sc_fn, ScL, some_imp, List.forall_mem_map, go_sem, Int.reduceBEq, Int.reduceLE, Int.reduceLT, Int.reduceNeg, Nat.reduceAdd, Nat.reduceEqDiff, Nat.reduceLT, Nat.reduceLeDiff, Nat.reduceMul, Nat.reduceSub, reduceCtorEq, ↓reduceIte]
           try exact cI (by omega)
       · rw [if_neg hk] at hR
         have hkq : (x == (q : Int)) = false := by simpa using hk
         by_cases hx0 : x < 0
         · have hf : R = (false, q) := by
            rw [if_pos (.inl hx0)] at hR
            exact hR.symm
           subst hf
           have e0 : decide (x < 0) = true := by simpa using hx0
           refine walkBF (And.intro hxp (And.intro @iPV_eq (And.intro hkq e0))) ?_
           refine retX Tryz.results128 ?_
           exact .c _
         have e0 : decide (x < 0) = false := by simpa using hx0
         by_cases hxq : x > (q : Int)
         · have hf : R = (false, q) := by
            rw [if_pos (.inr (.inl hxq))] at hR
            exact hR.symm
           subst hf
           have e1 : decide (x > (q : Int)) = true := by simpa using hxq
           refine walkBF (And.intro hxp (And.intro @iPV_eq (And.intro hkq (And.intro e0 e1)))) ?_
           refine retX Tryz.results128 ?_
           exact .c _
         have e1 : decide (x > (q : Int)) = false := by simpa using hxq
         obtain ⟨j, rfl⟩ : ∃ j : Nat, x = (j : Int) := ⟨x.toNat, by omega⟩
         have hj : j < ns.length := by omega
         obtain ⟨m, hm⟩ : ∃ m, ns[j]? = some m := ⟨ns[j], List.getElem?_eq_getElem hj⟩
         have hmp : (ns.map NT.cells)[j]? = some m.cells := by rw [List.getElem?_map, hm]; rfl
         have hka : kindAt ns ((j : Int)).toNat = m.kind := by rw [Int.toNat_natCast, kindAt, hm]
         rw [hka] at hR
         have hN := named_told m.kind
         refine walkBF (And.intro hxp (And.intro @iPV_eq (And.intro hkq (And.intro e0 (And.intro e1 (And.intro hmp @ncells_mk)))))) ?_
         refine walkC (hN) ?_
         refine walkG ?_
         refine VC.cond (by rfl) (by trivial) (fun hc3 => ?_) (fun hc3 => ?_)
         · have hf : R = (false, q) := by
            rw [if_pos (.inr (.inr (by simpa using hc3)))] at hR
            exact hR.symm
           subst hf
           refine walkG ?_
           refine retX Tryz.results128 ?_
           exact .c _
         · have hnn : namedK m.kind = true := by simpa using hc3
           have hno : ¬ ((j : Int) < 0 ∨ (j : Int) > (q : Int) ∨ namedK m.kind = false) := by
            rintro (h | h | h)
            · exact hx0 h
            · exact hxq h
            · rw [hnn] at h
              exact absurd h (by simp)
           rw [if_neg hno] at hR
           refine walkGF (hw) ?_
           refine .next ⟨(i + 1, q), by simp only []; omega, hq, hR⟩ ?_ (by simp only []; omega)
           simp only [Weak, eq_self, used_is, sc_any, sc_c, sc_pp, sc_ref, sc_row, sc_agg, sc_fn, ScL, some_imp, List.forall_mem_map, go_sem, Int.reduceBEq, Int.reduceLE, Int.reduceLT, Int.reduceNeg, Nat.reduceAdd, Nat.reduceEqDiff, Nat.reduceLT, Nat.reduceLeDiff, Nat.reduceMul, Nat.reduceSub, reduceCtorEq, ↓reduceIte]
           try exact cI (by omega)
     · have hie : i = ks.length := by simp at hc2; omega
       have hf : R = (true, q) := by
        rw [hie, List.drop_length, walkK] at hR
        exact hR.symm
       subst hf
       refine walkG ?_
       refine retX Tryz.results128 ?_
       exact .c _
   · have hR : R = (false, p) := by
      rw [hR, List.getElem?_eq_none (by omega)]
     subst hR
     have hge : decide ((p : Int) ≥ (ns.length : Int)) = true := by simp; omega
     unfold wB
     refine VC.toldX ent_128 [] Tryz.func128 rfl Tryz.ntmps128 fun hb hbL => ?_
     clear hb hbL
     refine walkGF (hge) ?_
     refine VC.cond (by rfl) (by trivial) (fun hc => ?_) (fun hc => ?_)
     · refine walkG ?_
       refine retX Tryz.results128 ?_
       exact .c _
     · exact absurd hc (by simp)
theorem ordered_told (s : ST) (hl : s.nodes.length ≤ 1000000) (hs : ∀ n ∈ s.nodes, n.sm 1000000) : Told Tryz.prog 67 [s.av] (.c (.v (.bool (orderedM s)))) := by
 have hW := walk_told s.nodes s.root hl hs 33 0 (by omega) (by omega) 0 (Nat.zero_le _)
 unfold wB at hW
 obtain ⟨V, hV⟩ : ∃ V, V = orderedM s := ⟨_, rfl⟩
 rw [← hV]
 unfold orderedM at hV
 obtain ⟨M, hM⟩ : ∃ M, M = walkM s.nodes 33 0 := ⟨_, rfl⟩
 rw [← hM] at hV hW
 clear hM
 have hv : V = (decide ((s.nodes.length : Int) > 0) && decide ((s.nodes.length : Int) ≤ 200) && (s.root == 0) && M.1 && ((M.2 : Int) == (s.nodes.length : Int))) := by
  have e1 : decide ((s.nodes.length : Int) > 0) = decide (0 < s.nodes.length) := by simp
  have e2 : decide ((s.nodes.length : Int) ≤ 200) = decide (s.nodes.length ≤ 200) := by simp; omega
  have e3 : (s.root == 0) = decide (s.root = 0) := by by_cases h : s.root = 0 <;> simp [h]
  have e4 : ((M.2 : Int) == (s.nodes.length : Int)) = decide (M.2 = s.nodes.length) := by
   by_cases h : M.2 = s.nodes.length
   · simp [h]
   · have : ¬ ((M.2 : Int) = (s.nodes.length : Int)) := by omega
     simp [h, this]
  rw [hV, e1, e2, e3, e4]
  simp only [Bool.and_assoc]
 clear hV
 replace hv := Lib.hid hv
 rw [ST.av_eq, scells_mk]
 rw [show ((0 : Nat) : Int) = 0 from rfl] at hW
 by_cases c1 : 0 < s.nodes.length
 · have e1 : decide ((s.nodes.length : Int) > 0) = true := by simpa using c1
   by_cases c2 : s.nodes.length ≤ 200
   · have e2 : decide ((s.nodes.length : Int) ≤ 200) = true := by simp; omega
     by_cases c3 : s.root = 0
     · have e3 : (s.root == 0) = true := by simpa using c3
       have hv2 : V = (M.1 && ((M.2 : Int) == (s.nodes.length : Int))) := by rw [hv.out, e1, e2, e3]; simp
       clear hv
       replace hv2 := Lib.hid hv2
       refine VC.toldP ent_67 Tryz.func67 rfl Tryz.ntmps67 fun hb => ?_
       clear hb
       refine walkGF (And.intro e1 (And.intro e2 e3)) ?_
       refine walkL [32] (hW) ?_
       refine walkG ?_
       refine retX Tryz.results67 ?_
       rw [hv2.out]
       exact .c _
     · have e3 : (s.root == 0) = false := by simpa using c3
       have hv2 : V = false := by rw [hv.out, e3]; simp
       clear hv
       subst hv2
       refine VC.toldP ent_67 Tryz.func67 rfl Tryz.ntmps67 fun hb => ?_
       clear hb
       refine walkGF (And.intro e1 (And.intro e2 e3)) ?_
       refine retX Tryz.results67 ?_
       exact .c _
   · have e2 : decide ((s.nodes.length : Int) ≤ 200) = false := by simp; omega
     have hv2 : V = false := by rw [hv.out, e2]; simp
     clear hv
     subst hv2
     refine VC.toldP ent_67 Tryz.func67 rfl Tryz.ntmps67 fun hb => ?_
     clear hb
     refine walkGF (And.intro e1 e2) ?_
     refine retX Tryz.results67 ?_
     exact .c _
 · have e1 : decide ((s.nodes.length : Int) > 0) = false := by
    rw [show s.nodes.length = 0 by omega]
    rfl
   have hv2 : V = false := by rw [hv.out, e1]; simp
   clear hv
   subst hv2
   refine VC.toldP ent_67 Tryz.func67 rfl Tryz.ntmps67 fun hb => ?_
   clear hb
   refine walkGF (e1) ?_
   refine retX Tryz.results67 ?_
   exact .c _

theorem rnamed10_told (k : Int) : Told Tryz.prog 91 [.c (.v (.int .i64 k))] (.c (.v (.bool (namedK k)))) := by
 obtain ⟨V, hV⟩ : ∃ V, V = namedK k := ⟨_, rfl⟩
 rw [← hV]
 unfold namedK at hV
 replace hV := Lib.hid hV
 refine VC.toldP ent_91 Tryz.func91 rfl Tryz.ntmps91 fun hb => ?_
 clear hb
 refine walkG ?_
 refine retX Tryz.results91 ?_
 rw [hV.out]
 exact .c _
theorem rkids_told (n : NT) (hn : n.sm 1000000) : Told Tryz.prog 96 [n.av] (.c (.sl 1 ((kidsN n).map iPV))) := by
 obtain ⟨L, hL⟩ : ∃ L, L = kidsN n := ⟨_, rfl⟩
 rw [← hL]
 unfold kidsN at hL
 have hfl := hn.2.2.2.2.2.1
 have hbl := hn.2.2.2.2.1
 rw [NT.av_eq, ncells_mk]
 refine VC.toldP ent_96 Tryz.func96 rfl Tryz.ntmps96 fun hb => ?_
 clear hb
 by_cases h9 : n.kind = 9
 · rw [if_pos h9] at hL
   subst hL
   rw [h9]
   refine walkB ?_
   refine VC.nil 3 3 1 (by rfl) (by trivial) (by rfl) ?_
   refine VC.loop (ι := {i : Nat // i ≤ n.fields.length}) (fun q => [(1, .ref 0 1 0 0), (3, .row 56 q.1), (4, .c (.v (.int .i64 (q.1 : Int))))])
    (fun q => [(0, ⟨false, 33, 10, [({n with kind := 9} : NT).cells.map .c]⟩), (56, ⟨true, 3, 1, rA iPV ((n.fields.map (·.type)).take q.1)⟩)]) 800 (fun q => n.fields.length - q.1) ⟨0, Nat.zero_le _⟩ ?_ ?_
   · simp only [rA_len, rA_sc, rA_nil, ncells_mk, Weak, eq_self, used_is, sc_any, sc_c, sc_pp, sc_ref, sc_row, sc_agg, sc_fn, ScL, some_imp, List.forall_mem_map, go_sem, Int.reduceBEq, Int.reduceLE, Int.reduceLT, Int.reduceNeg, Nat.reduceAdd, Nat.reduceEqDiff, Nat.reduceLT, Nat.reduceLeDiff, Nat.reduceMul, Nat.reduceSub, reduceCtorEq, ↓reduceIte]
     try simp
   rintro ⟨i, hi⟩
   simp only []
   refine walkGF (@ncells_mk) ?_
   refine VC.cond (by rfl) (by trivial) (fun hc => ?_) (fun hc => ?_)
   · have hlt : i < n.fields.length := by simp at hc; omega
     obtain ⟨f, hx⟩ : ∃ f, n.fields[i]? = some f := ⟨n.fields[i], List.getElem?_eq_getElem hlt⟩
     have hw : IntKind.i64.wrap ((i : Int) + 1) = (i : Int) + 1 := wrap64_id (by omega) (by omega)
     have hxp : (n.fields.map FT.cells)[i]? = some f.cells := by rw [List.getElem?_map, hx]; rfl
     have hl : (rA iPV ((n.fields.map (·.type)).take i)).length = i := by rw [rA_len]; simp; omega
     have hr : rA iPV ((n.fields.map (·.type)).take i) ++ [[.c (.v (.int .i64 f.type))]] = rA iPV ((n.fields.map (·.type)).take (i + 1)) := by
      rw [List.take_add_one, List.getElem?_map, hx]
      exact rA_one iPV _ f.type
     have hl2 : (rA iPV ((n.fields.map (·.type)).take (i + 1))).length = i + 1 := by rw [rA_len]; simp; omega
     refine walkGF (And.intro @ncells_mk (And.intro hxp (And.intro @fcells_mk (And.intro @len_cells (And.intro @take_cells (And.intro @take_cellsC (And.intro hl (And.intro hr hw)))))))) ?_
     refine .next ⟨i + 1, by omega⟩ ?_ (by simp only []; omega)
     refine weakXF (And.intro hl2 (And.intro @rA_sc @ncells_mk)) ?_
     exact ⟨cI (by omega), Nat.le_refl _⟩
   · have hie : i = n.fields.length := by simp at hc; omega
     have htk : (n.fields.map (·.type)).take i = n.fields.map (·.type) := List.take_of_length_le (by simp; omega)
     rw [htk]
     refine walkBF (And.intro hie @ncells_mk) ?_
     refine retX Tryz.results96 ?_
     apply frz_rA (f := iPV) (l := n.fields.map (·.type)) (T := 3)
     · rfl
     · simp [hie]
     · rfl
     · simp [iPV]
 by_cases h11 : n.kind = 11
 · rw [if_neg h9, if_pos (.inl h11)] at hL
   subst hL
   rw [h11]
   refine walkB ?_
   refine retX Tryz.results96 ?_
   exact frz_rA (f := iPV) (l := [n.items]) rfl rfl rfl (by simp [iPV])
 by_cases h12 : n.kind = 12
 · rw [if_neg h9, if_pos (.inr h12)] at hL
   subst hL
   rw [h12]
   refine walkB ?_
   refine retX Tryz.results96 ?_
   exact frz_rA (f := iPV) (l := [n.items]) rfl rfl rfl (by simp [iPV])
 by_cases h13 : n.kind = 13
 · rw [if_neg h9, if_neg (by simp [h11, h12]), if_pos h13] at hL
   subst hL
   rw [h13]
   refine walkB ?_
   refine retX Tryz.results96 ?_
   refine frz_rA (f := iPV) (l := n.branches) (T := 3) ?_ ?_ rfl (by simp [iPV])
   · simp [upd_at, rA_pv]
   · simp
 · rw [if_neg h9, if_neg (by simp [h11, h12]), if_neg h13] at hL
   subst hL
   have e9 : (n.kind == 9) = false := by simpa using h9
   have e11 : (n.kind == 11) = false := by simpa using h11
   have e12 : (n.kind == 12) = false := by simpa using h12
   have e13 : (n.kind == 13) = false := by simpa using h13
   refine walkBF (And.intro e9 (And.intro e11 (And.intro e12 e13))) ?_
   refine retX Tryz.results96 ?_
   exact .nil _
theorem met_told (s : ST) (hl : s.nodes.length ≤ 1000000) (hs : ∀ n ∈ s.nodes, n.sm 1000000) : ∀ (d : Nat) (z : Int), z = 33 - (d : Int) → d ≤ 33 → ∀ p : Nat, p ≤ s.nodes.length →
  Told Tryz.prog 144 [s.av, .c (.v (.int .i64 (p : Int))), .c (.v (.int .i64 z))] (.c (.v (.int .i64 (metM s.nodes d p)))) := by
 intro d
 induction d with
 | zero =>
   intro z hz hd p hp
   have hz2 : decide (z > 32) = true := by simp; omega
   have hm : metM s.nodes 0 p = -1 := by simp [metM, walkM]
   rw [hm, ST.av_eq, scells_mk]
   refine VC.toldP ent_144 Tryz.func144 rfl Tryz.ntmps144 fun hb => ?_
   clear hb
   refine walkGF (hz2) ?_
   refine VC.cond (by rfl) (by trivial) (fun hc => ?_) (fun hc => ?_)
   · refine walkG ?_
     refine retX Tryz.results144 ?_
     exact .c _
   · exact absurd hc (by simp)
 | succ d ih =>
   intro z hz hd p hp
   have hz2 : decide (z > 32) = false := by simp; omega
   have hwz : IntKind.i64.wrap (z + 1) = z + 1 := wrap64_id (by omega) (by omega)
   have hI := ih (z + 1) (by omega) (by omega)
   clear ih
   obtain ⟨V, hV⟩ : ∃ V, V = metM s.nodes (d + 1) p := ⟨_, rfl⟩
   rw [← hV]
   unfold metM at hV
   obtain ⟨R, hR⟩ : ∃ R, R = walkM s.nodes (d + 1) p := ⟨_, rfl⟩
   rw [← hR] at hV
   rw [walkM] at hR
   have hle := walkM_le s.nodes d
   rw [ST.av_eq, scells_mk]
   simp only [ST.av_eq, scells_mk, List.map_cons, List.map_nil] at hI
   by_cases hlt : p < s.nodes.length
   · obtain ⟨n, hn⟩ : ∃ n, s.nodes[p]? = some n := ⟨s.nodes[p], List.getElem?_eq_getElem hlt⟩
     have hnp : (s.nodes.map NT.cells)[p]? = some n.cells := by rw [List.getElem?_map, hn]; rfl
     have hge : decide ((p : Int) ≥ (s.nodes.length : Int)) = false := by simp; omega
     have hwp : IntKind.i64.wrap ((p : Int) + 1) = ((p + 1 : Nat) : Int) := by rw [wrap64_id (by omega) (by omega)]; rfl
     have hns := hs n (List.mem_of_getElem? hn)
     have hKi := rkids_told n hns
     have hkl := kids_len hns
     rw [hn] at hR
     simp only [] at hR
     obtain ⟨ks, hks⟩ : ∃ ks, ks = kidsN n := ⟨_, rfl⟩
     rw [← hks] at hKi hR hkl
     simp only [NT.av_eq] at hKi
     clear hks
     refine VC.toldP ent_144 Tryz.func144 rfl Tryz.ntmps144 fun hb => ?_
     clear hb
     refine walkGF (And.intro hge hz2) ?_
     refine VC.cond (by rfl) (by trivial) (fun hc => ?_) (fun hc => ?_)
     · exact absurd hc (by simp)
     refine walkGF (And.intro hwp (And.intro hnp (And.intro @len_ncells (And.intro @take_ncells @take_ncellsC)))) ?_
     refine walkCF (@pureL_c) (hKi) ?_
     refine walkG ?_
     clear hKi
     refine VC.loop (ι := {x : Nat × Nat // x.1 ≤ ks.length ∧ x.2 ≤ s.nodes.length ∧ walkK s.nodes (walkM s.nodes d) (ks.drop x.1) x.2 = R})
      (fun q => [(2, .c (.v (.int .i64 z))), (3, .ref 0 1 0 0), (7, .c (.v (.int .i64 (q.1.2 : Int)))), (8, .c (.sl 1 (ks.map iPV))), (9, .c (.v (.int .i64 (q.1.1 : Int))))])
      (fun q => [(0, ⟨false, 24, 2, [[.c (.sl 10 (s.nodes.map NT.cells)), .c (.v (.int .i64 s.root))]]⟩)]) 800 (fun q => ks.length - q.1.1) ⟨(0, p + 1), Nat.zero_le _, hlt, by rw [List.drop_zero]; exact hR.symm⟩ ?_ ?_
     · simp only [Weak, eq_self, used_is, sc_any, sc_c, sc_pp, sc_ref, sc_row, sc_agg, sc_fn, ScL, some_imp, List.forall_mem_map, go_sem, Int.reduceBEq, Int.reduceLE, Int.reduceLT, Int.reduceNeg, Nat.reduceAdd, Nat.reduceEqDiff, Nat.reduceLT, Nat.reduceLeDiff, Nat.reduceMul, Nat.reduceSub, reduceCtorEq, ↓reduceIte]
       try simp
     clear hR
     rintro ⟨⟨i, q⟩, hi, hq, hR⟩
     simp only [] at hi hq hR ⊢
     refine walkG ?_
     refine VC.cond (by rfl) (by trivial) (fun hc2 => ?_) (fun hc2 => ?_)
     · have hil : i < ks.length := by simp at hc2; omega
       obtain ⟨x, hx⟩ : ∃ x, ks[i]? = some x := ⟨ks[i], List.getElem?_eq_getElem hil⟩
       have hxp : (ks.map iPV)[i]? = some (iPV x) := by rw [List.getElem?_map, hx]; rfl
       have hw : IntKind.i64.wrap ((i : Int) + 1) = (i : Int) + 1 := wrap64_id (by omega) (by omega)
       rw [drop_at' hx, walkK] at hR
       by_cases hx0 : x < 0
       · have hf : R = (false, q) := by
          rw [if_neg (by omega), if_pos (.inl hx0)] at hR
          exact hR.symm
         subst hf
         obtain rfl : V = -1 := hV
         have e0 : decide (x < 0) = true := by simpa using hx0
         refine walkBF (And.intro hxp (And.intro @iPV_eq e0)) ?_
         refine retX Tryz.results144 ?_
         exact .c _
       have e0 : decide (x < 0) = false := by simpa using hx0
       by_cases hxq : x > (q : Int)
       · have hf : R = (false, q) := by
          rw [if_neg (by omega), if_pos (.inr (.inl hxq))] at hR
          exact hR.symm
         subst hf
         obtain rfl : V = -1 := hV
         have e1 : decide (x > (q : Int)) = true := by simpa using hxq
         refine walkBF (And.intro hxp (And.intro @iPV_eq (And.intro e0 e1))) ?_
         refine retX Tryz.results144 ?_
         exact .c _
       have e1 : decide (x > (q : Int)) = false := by simpa using hxq
       by_cases hk : x = (q : Int)
       · rw [if_pos hk] at hR
         subst hk
         have e2 : decide ((q : Int) < (q : Int)) = false := by simp
         have hkq : ((q : Int) == (q : Int)) = true := by simp
         have hIq := hI q hq
         have hqb := (hle q hq).2
         obtain ⟨D, hD⟩ : ∃ D, D = metM s.nodes d q := ⟨_, rfl⟩
         rw [← hD] at hIq
         unfold metM at hD
         obtain ⟨M, hM⟩ : ∃ M, M = walkM s.nodes d q := ⟨_, rfl⟩
         rw [← hM] at hD hR hqb
         clear hI hM
         refine walkBF (And.intro hxp (And.intro @iPV_eq (And.intro hkq (And.intro hwz (And.intro e0 (And.intro e1 e2)))))) ?_
         refine walkC (hIq) ?_
         cases hm1 : M.1 with
         | false =>
           rw [hm1, if_neg (by simp)] at hD hR
           subst hR
           obtain rfl : V = -1 := hV
           subst hD
           refine walkB ?_
           refine retX Tryz.results144 ?_
           exact .c _
         | true =>
           rw [hm1, if_pos rfl] at hD hR
           subst hD
           have e3 : decide (((M.2 : Nat) : Int) < 0) = false := by simp
           refine walkBF (And.intro e3 hw) ?_
           refine .next ⟨(i + 1, M.2), by simp only []; omega, hqb, hR⟩ ?_ (by simp only []; omega)
           simp only [Weak, eq_self, used_is, sc_any, sc_c, sc_pp, sc_ref, sc_row, sc_agg, sc_fn, ScL, some_imp, List.forall_mem_map, go_sem, Int.reduceBEq, Int.reduceLE, Int.reduceLT, Int.reduceNeg, Nat.reduceAdd, Nat.reduceEqDiff, Nat.reduceLT, Nat.reduceLeDiff, Nat.reduceMul, Nat.reduceSub, reduceCtorEq, ↓reduceIte]
           try exact cI (by omega)
       · rw [if_neg hk] at hR
         have e2 : decide (x < (q : Int)) = true := by simp; omega
         have hkq : (x == (q : Int)) = false := by simpa using hk
         obtain ⟨j, rfl⟩ : ∃ j : Nat, x = (j : Int) := ⟨x.toNat, by omega⟩
         have hj : j < s.nodes.length := by omega
         obtain ⟨m, hm⟩ : ∃ m, s.nodes[j]? = some m := ⟨s.nodes[j], List.getElem?_eq_getElem hj⟩
         have hmp : (s.nodes.map NT.cells)[j]? = some m.cells := by rw [List.getElem?_map, hm]; rfl
         have hka : kindAt s.nodes ((j : Int)).toNat = m.kind := by rw [Int.toNat_natCast, kindAt, hm]
         rw [hka] at hR
         have hN := rnamed10_told m.kind
         refine walkBF (And.intro hxp (And.intro @iPV_eq (And.intro hkq (And.intro e0 (And.intro e1 (And.intro e2 (And.intro hmp @ncells_mk))))))) ?_
         refine walkC (hN) ?_
         refine walkGF (hkq) ?_
         refine VC.cond (by rfl) (by trivial) (fun hc3 => ?_) (fun hc3 => ?_)
         · have hf : R = (false, q) := by
            rw [if_pos (.inr (.inr (by simpa using hc3)))] at hR
            exact hR.symm
           subst hf
           obtain rfl : V = -1 := hV
           refine walkG ?_
           refine retX Tryz.results144 ?_
           exact .c _
         · have hnn : namedK m.kind = true := by simpa using hc3
           have hno : ¬ ((j : Int) < 0 ∨ (j : Int) > (q : Int) ∨ namedK m.kind = false) := by
            rintro (h | h | h)
            · exact hx0 h
            · exact hxq h
            · rw [hnn] at h
              exact absurd h (by simp)
           rw [if_neg hno] at hR
           refine walkBF (And.intro hw hkq) ?_
           refine .next ⟨(i + 1, q), by simp only []; omega, hq, hR⟩ ?_ (by simp only []; omega)
           simp only [Weak, eq_self, used_is, sc_any, sc_c, sc_pp, sc_ref, sc_row, sc_agg, sc_fn, ScL, some_imp, List.forall_mem_map, go_sem, Int.reduceBEq, Int.reduceLE, Int.reduceLT, Int.reduceNeg, Nat.reduceAdd, Nat.reduceEqDiff, Nat.reduceLT, Nat.reduceLeDiff, Nat.reduceMul, Nat.reduceSub, reduceCtorEq, ↓reduceIte]
           try exact cI (by omega)
     · have hie : i = ks.length := by simp at hc2; omega
       have hf : R = (true, q) := by
        rw [hie, List.drop_length, walkK] at hR
        exact hR.symm
       subst hf
       obtain rfl : V = (q : Int) := hV
       refine walkG ?_
       refine retX Tryz.results144 ?_
       exact .c _
   · have hR : R = (false, p) := by
      rw [hR, List.getElem?_eq_none (by omega)]
     subst hR
     obtain rfl : V = -1 := hV
     have hge : decide ((p : Int) ≥ (s.nodes.length : Int)) = true := by simp; omega
     refine VC.toldP ent_144 Tryz.func144 rfl Tryz.ntmps144 fun hb => ?_
     clear hb
     refine walkGF (hge) ?_
     refine VC.cond (by rfl) (by trivial) (fun hc => ?_) (fun hc => ?_)
     · refine walkG ?_
       refine retX Tryz.results144 ?_
       exact .c _
     · exact absurd hc (by simp)
theorem rordered_told (s : ST) (hl : s.nodes.length ≤ 1000000) (hs : ∀ n ∈ s.nodes, n.sm 1000000) : Told Tryz.prog 88 [s.av] (.c (.v (.bool (orderedM s)))) := by
 have hW := met_told s hl hs 33 0 (by omega) (by omega) 0 (Nat.zero_le _)
 obtain ⟨D, hD⟩ : ∃ D, D = metM s.nodes 33 0 := ⟨_, rfl⟩
 rw [← hD] at hW
 unfold metM at hD
 have hle := walkM_le s.nodes 33 0 (Nat.zero_le _)
 have hv : orderedM s = (decide ((s.nodes.length : Int) ≥ 1) && decide ((s.nodes.length : Int) ≤ 200) && (s.root == 0) && (D == (s.nodes.length : Int))) := by
  have e1 : decide ((s.nodes.length : Int) ≥ 1) = decide (0 < s.nodes.length) := by simp; omega
  have e2 : decide ((s.nodes.length : Int) ≤ 200) = decide (s.nodes.length ≤ 200) := by simp; omega
  have e3 : (s.root == 0) = decide (s.root = 0) := by by_cases h : s.root = 0 <;> simp [h]
  have e4 : (D == (s.nodes.length : Int)) = ((walkM s.nodes 33 0).1 && decide ((walkM s.nodes 33 0).2 = s.nodes.length)) := by
   rw [hD]
   cases h1 : (walkM s.nodes 33 0).1 with
   | false =>
     simp
   | true =>
     by_cases h : (walkM s.nodes 33 0).2 = s.nodes.length
     · simp [h]
     · have : ¬ (((walkM s.nodes 33 0).2 : Int) = (s.nodes.length : Int)) := by omega
       simp [h, this]
  rw [orderedM, e1, e2, e3, e4]
  simp only [Bool.and_assoc]
 obtain ⟨V, hV⟩ : ∃ V, V = orderedM s := ⟨_, rfl⟩
 rw [← hV] at hv ⊢
 clear hV hD hle
 replace hv := Lib.hid hv
 simp only [ST.av_eq, scells_mk, List.map_cons, List.map_nil] at hW
 rw [ST.av_eq, scells_mk]
 rw [show ((0 : Nat) : Int) = 0 from rfl] at hW
 refine VC.toldP ent_88 Tryz.func88 rfl Tryz.ntmps88 fun hb => ?_
 clear hb
 refine walkG ?_
 refine walkD (hW) ?_
 refine walkG ?_
 refine retX Tryz.results88 ?_
 rw [hv.out]
 exact .c _

theorem str_no (s : List UInt8) : ((str s).toList == (⟨#[]⟩ : ByteArray).toList) = s.isEmpty := by
 have := str_empty s
 cases h : s.isEmpty <;> simp_all
theorem rwith0_told (key : List UInt8) (x : JT) : Told Tryz.prog 97 [.agg [.c (.v (.int .i64 0)), .c (.v (.int .i64 0)), .c (.v (.string ⟨#[]⟩)), .c (.v (.slice none 0 0)), .c (.v (.slice none 0 0))], .c (.v (.string (str key))), x.av] (objJ [(key, x)]).av :=
 (rwith_told 0 0 [] [] [] key x (by simp) (by simp)).co (.cons (Co.aggL (.cons (.same _) (.cons (.same _) (.cons (.same _) (.cons (.nil 5) (.cons (.nil 1) .nil)))))) (.cons (.same _) (.cons (.same _) .nil)))
theorem rwithO_told (l : List (List UInt8 × JT)) (hl : l.length ≤ 1000000) (key : List UInt8) (x : JT) : Told Tryz.prog 97 [(objJ l).av, .c (.v (.string (str key))), x.av] (objJ (l ++ [(key, x)])).av := by
 have h := rwith_told 6 0 [] (l.map Prod.fst) (l.map Prod.snd) key x (by simpa using hl) (by simpa using hl)
 unfold objJ
 rw [List.map_append, List.map_append]
 exact h
theorem rtree_met (s : ST) (hs : s.sm 1000000) (d q p : Nat) (hlt : q < p) (hnm : namedK (kindAt s.nodes q) = true) (a : List UInt8) :
  Told Tryz.prog 53 [s.av, .c (.v (.int .i64 (q : Int))), .c (.v (.int .i64 (p : Int))), .c (.v (.string (str a)))] (.tup [(treeN s.nodes d q p).av, .c (.v (.int .i64 (plN s.nodes d q p : Int))), .c (.v (.bool (okTr s.nodes d q p a)))]) := by
 obtain ⟨n, hn⟩ : ∃ n, s.nodes[q]? = some n := by
  unfold kindAt at hnm
  cases hq : s.nodes[q]? with
  | none => rw [hq] at hnm; simp [namedK] at hnm
  | some n => exact ⟨n, rfl⟩
 have hq1 := (List.getElem?_eq_some_iff.1 hn).1
 have hsm := hs.2 n (List.mem_of_getElem? hn)
 have hnl := hsm.1
 rw [kindAt, hn] at hnm
 simp only [] at hnm
 rw [okTr_met _ _ _ _ _ hlt, plN_met _ _ _ _ hlt, treeN_met _ _ _ _ hlt, nmAt, hn]
 simp only []
 have hSp := rspace_told n.name (by omega)
 have hTx := rtext17_told n.name
 have hNm := rnamed10_told n.kind
 rw [hnm] at hNm
 have hxp : (s.nodes.map NT.cells)[q]? = some n.cells := by rw [List.getElem?_map, hn]; rfl
 have e1 := str_no a
 have e2 := str_no (spaceM n.name)
 have hlp : decide ((q : Int) < (p : Int)) = true := by simp; omega
 unfold nameOk
 simp only [JT.av_eq] at hTx ⊢
 generalize textJ n.name = y at *
 generalize spaceM n.name = sp at *
 generalize hz : sp.isEmpty = z at *
 generalize hz2 : a.isEmpty = z2 at *
 rw [ST.av_eq, scells_mk]
 refine VC.toldP ent_53 Tryz.func53 rfl Tryz.ntmps53 fun hb => ?_
 clear hb
 refine walkGF (And.intro hxp @ncells_mk) ?_
 refine walkC (hNm) ?_
 refine walkGF (@ncells_mk) ?_
 refine walkC (hSp) ?_
 refine walkBF (And.intro hlp @ncells_mk) ?_
 refine walkC (hTx) ?_
 refine walkBF (And.intro e1 (And.intro e2 (And.intro @len_cells (And.intro @take_cells @take_cellsC)))) ?_
 refine retXF (And.intro @len_cells @take_cellsC) Tryz.results53 ?_
 exact ⟨Frz.cs _ _, .c _, .c _⟩

inductive MQF {ι : Type} (l : ι → List (Nat × AV)) (hl : ι → List (Nat × Blkd)) (n : Nat) (Q : Exit → ASt → Prop) : Exit → ASt → Prop
 | normal {σ : ASt} (j : ι) (h : Weak σ (l j) (hl j) n) : MQF l hl n Q .normal σ
 | ret {σ : ASt} (h : Q .ret σ) : MQF l hl n Q .ret σ
 | exit {σ : ASt} {id : Nat} (h : Q (.exit id) σ) : MQF l hl n Q (.exit id) σ
instance pF1 {ι : Type} {lv : ι → List (Nat × AV)} {hl : ι → List (Nat × Blkd)} {n : Nat} {σ : ASt} {Q : Exit → ASt → Prop} : Pass (MQF lv hl n Q .ret σ) (Q .ret σ) := ⟨.ret⟩
instance pF2 {ι : Type} {lv : ι → List (Nat × AV)} {hl : ι → List (Nat × Blkd)} {n : Nat} {σ : ASt} {Q : Exit → ASt → Prop} {id : Nat} : Pass (MQF lv hl n Q (.exit id) σ) (Q (.exit id) σ) := ⟨.exit⟩
theorem VC.meetF {P : Program} {N : Nat} {σ : ASt} {Q : Exit → ASt → Prop} {x y : Code} {ι : Type} (l : ι → List (Nat × AV)) (hl : ι → List (Nat × Blkd)) (n : Nat) (h1 : VC P N x σ (MQF l hl n Q)) (h2 : ∀ j, VC P N y (st (l j) (hl j) n) Q) : VC P N x σ (SQ P N y Q) :=
 h1.mono fun e σ h => by
  cases h with
  | normal j h => exact .normal (VC.weak (l j) (hl j) n h (h2 j))
  | ret h => exact .ret h
  | exit h => exact .exit h
end
end Go.Proofs.YtepneflbhpidbaaGreatDoor
