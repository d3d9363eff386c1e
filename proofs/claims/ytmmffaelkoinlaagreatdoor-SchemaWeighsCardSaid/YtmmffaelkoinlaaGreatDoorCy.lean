/- schema: a copied tree, and Copy, as contracts. -/
import Derived.Test.YtmmffaelkoinlaaGreatDoorCk
import Derived.Test.YtmmffaelkoinlaaGreatDoorJb
import Derived.Test.YtmmffaelkoinlaaGreatDoorSb
namespace Go.Proofs.YtmmffaelkoinlaaGreatDoor
open Go.RowKit
set_option linter.unusedVariables false
set_option linter.unusedSimpArgs false
attribute [local go_sem] opx opE ev okx gcond bnd okO AV.get AV.okb cAV upd_at putd_some putd_none wrs_nil wrs_cons look_nil look_cons st argT_at bpick_and bpick_or bpick_true bpick_false binV binI binS binVOk binOk isShift binSOk unV unVOk loadV loadP cellsA zeroA Blkd.len setE grown moreA moreR moreOk eqRes pv fillA fillE putSeg AV.cellish AV.pureL AV.pureB lentL_is ex_some AV.ren AV.renL renL_c Blkd.ren rho wrM renN lentOk rhoE keepM endOk tyA_2 tyA_3 tyA_4 tyA_5 tyA_6 tyA_7 tyA_8 tyA_9 tyA_10 tyA_11 tyA_12 tyA_13 tyA_14 tyA_15 tyA_16 tyA_17 tyA_18 tyA_19 tyA_21 tyA_22 tyA_23 tyA_24 tyA_28 tyA_29 tyA_30 tyA_31 tyA_32 tyA_34 tyA_35 tyA_36 tyA_37 tyA_38 tyA_42 tyA_47 tyA_48 tyA_49 tyA_50 tyA_51 tyA_81 tyA_85 tyA_89 tyA_90 tyA_91 tyA_98 tyA_110 tyA_111 tyA_112 tyA_113 tyA_114 tyA_119 tyA_130 tyA_160 tyA_163 tyA_165 tyA_171 tyA_181 tyA_185 tyA_187 tyA_191 tyA_192 tyA_193 tyA_194 tyA_195 tyA_197 tyA_198 tyA_200 tyA_201 tyA_202 tyA_205 Option.map_some Option.map_none Option.getD_some Option.getD_none Option.bind_some Option.bind_none List.getElem?_cons_zero List.getElem?_cons_succ List.getElem?_nil List.getElem?_toArray List.length_cons List.length_nil List.length_map List.forall_mem_map List.map_cons List.map_nil List.drop_zero List.drop_succ_cons List.drop_nil List.take_zero List.take_succ_cons List.take_nil List.mem_cons List.not_mem_nil or_false forall_eq_or_imp forall_eq List.set_cons_zero List.set_cons_succ List.cons_append List.nil_append List.append_nil List.foldl_cons List.foldl_nil List.replicate_succ List.replicate_zero List.all_cons List.all_nil if_true if_false Bool.false_eq_true ne_eq not_false_eq_true not_true_eq_false true_and and_true and_self true_implies imp_self implies_true forall_const beq_self_eq_true Bool.and_true Bool.true_and Bool.and_false Bool.false_and Bool.or_true Bool.true_or Bool.or_false Bool.false_or Bool.not_true Bool.not_false Bool.not_eq_eq_eq_not intKindOf Value.oneCell' Int.toNat_natCast beq_true beq_false Bool.not_eq_true false_implies false_or true_or or_true Nat.zero_add Nat.add_zero decide_true decide_false Int.cast_ofNat_Int Int.toNat_zero Int.toNat_one eq_self

set_option maxRecDepth 100000 in
set_option maxHeartbeats 1600000 in
theorem tree_told : ∀ (m : Nat) (t : JT), SizeOf.sizeOf t ≤ m → t.sm 1000000 → Told Tryz.prog 55 [t.av] t.av := by
  intro m
  induction m with
  | zero => intro t ht; cases t; simp at ht
  | succ m ih =>
  intro t ht hsm
  cases t with
  | mk k n s ks xs =>
  have hx : ∀ x ∈ xs, Told Tryz.prog 55 [x.av] x.av := fun x hxm => ih x (by have := List.sizeOf_lt_of_mem hxm; simp at ht; omega) (smL_mem hsm.2.2.2.2 x hxm)
  obtain ⟨hsl, hkl, hks, hxl, _⟩ := hsm
  clear ih ht
  have hK := cloneS_told ks hkl
  rw [JT.av_eq, cells_mk]
  by_cases hxe : xs = []
  · subst hxe
    have hI := cloneJ_told [] (by simp)
    have hKc := hK
    clear hK
    simp only [List.map_nil] at hI
    refine VC.told ent_55 Tryz.func55 rfl Tryz.ntmps55 (by simp) (by first | rfl | simp [AV.pureB, AV.pureL, pureL_c, pures]) (by first | rfl | simp [AV.pureB, AV.pureL, pureL_c, pures]) fun hb => ?_
    clear hb
    refine walkG ?_
    refine walkC (hKc) ?_
    refine walkG ?_
    refine walkC (hI) ?_
    refine walkG ?_
    refine VC.loop (ι := Unit) (fun _ => [(1, .ref 0 1 0 0), (2, .ref 8 1 0 0), (14, .c (.v (.int .i64 0))), (15, .c (.v (.int .i64 0)))])
      (fun _ => [(0, ⟨false, 49, 5, [[.c (.v (.int .i64 k)), .c (.v (.int .i64 n)), .c (.v (.string (str s))), .c (.sl 5 []), .c (.sl 1 (ks.map sPV))]]⟩), (8, ⟨false, 49, 5, [[.c (.v (.int .i64 0)), .c (.v (.int .i64 0)), .c (.v (.string ⟨#[]⟩)), .c (.v (.slice none 0 0)), .c (.v (.slice none 0 0))]]⟩)]) 800 (fun _ => 0) () ?_ ?_
    · simp only [Weak, eq_self, used_is, sc_any, sc_c, sc_pp, sc_ref, sc_row, sc_agg, sc_fn, ScL, some_imp, List.forall_mem_map, go_sem, Int.reduceBEq, Int.reduceLE, Int.reduceLT, Int.reduceNeg, Nat.reduceAdd, Nat.reduceEqDiff, Nat.reduceLT, Nat.reduceLeDiff, Nat.reduceMul, Nat.reduceSub, reduceCtorEq, ↓reduceIte]
      try simp
    rintro ⟨⟩
    refine walkB ?_
    refine ⟨by first | exact .inr rfl | exact .inl rfl, ?_⟩; rw [Tryz.results55]; simp only [resOk, resV, go_sem, Int.reduceBEq, Int.reduceLE, Int.reduceLT, Int.reduceNeg, Nat.reduceAdd, Nat.reduceEqDiff, Nat.reduceLT, Nat.reduceLeDiff, Nat.reduceMul, Nat.reduceSub, reduceCtorEq, ↓reduceIte]
    exact Frz.cs _ [.v (.int .i64 k), .v (.int .i64 n), .v (.string (str s)), .sl 5 [], .sl 1 (ks.map sPV)]
  · have hI := cloneJ_toldM xs hxe hxl
    have hKc := hK
    clear hK
    refine VC.told ent_55 Tryz.func55 rfl Tryz.ntmps55 (by simp) (by first | rfl | simp [AV.pureB, AV.pureL, pureL_c, pures]) (by first | rfl | simp [AV.pureB, AV.pureL, pureL_c, pures]) fun hb => ?_
    clear hb
    refine walkG ?_
    refine walkC (hKc) ?_
    refine walkG ?_
    ((refine AO.step fun K hK => ?_; simp only [go_sem, Int.reduceBEq, Int.reduceLE, Int.reduceLT, Int.reduceNeg, Nat.reduceAdd, Nat.reduceEqDiff, Nat.reduceLT, Nat.reduceLeDiff, Nat.reduceMul, Nat.reduceSub, reduceCtorEq, ↓reduceIte]; (first | refine gsel_go ?_ | skip)); refine .inr (.inr (.inl ⟨?vy1, [], ?va1, ?vl1, ?vm1, ?cond1, ?cont1⟩)); (case cond1 => ((repeat' apply And.intro) <;> (try ((with_reducible show ToldM _ _ _ _ _ _); exact hI))); (all_goals first | trivial | (simp only [go_sem, Int.reduceBEq, Int.reduceLE, Int.reduceLT, Int.reduceNeg, Nat.reduceAdd, Nat.reduceEqDiff, Nat.reduceLT, Nat.reduceLeDiff, Nat.reduceMul, Nat.reduceSub, reduceCtorEq, ↓reduceIte]; done) | (simp; done) | rfl)); (first | refine hK _ _ _ ?_ | (simp only [go_sem, Int.reduceBEq, Int.reduceLE, Int.reduceLT, Int.reduceNeg, Nat.reduceAdd, Nat.reduceEqDiff, Nat.reduceLT, Nat.reduceLeDiff, Nat.reduceMul, Nat.reduceSub, reduceCtorEq, ↓reduceIte]; first | refine hK _ _ _ ?_ | refine ⟨rfl, hK _ _ _ ?_⟩)); clear hK K)
    refine walkGF (@rA_len) ?_
    refine VC.loop (ι := {i : Nat // i ≤ xs.length}) (fun q => [(1, .ref 0 1 0 0), (2, .ref 8 1 0 0), (14, .c (.v (.int .i64 (xs.length : Int)))), (15, .c (.v (.int .i64 (q.1 : Int))))])
      (fun _ => [(0, ⟨false, 49, 5, [[.c (.v (.int .i64 k)), .c (.v (.int .i64 n)), .c (.v (.string (str s))), .row 56 xs.length, .c (.sl 1 (ks.map sPV))]]⟩), (8, ⟨false, 49, 5, [[.c (.v (.int .i64 0)), .c (.v (.int .i64 0)), .c (.v (.string ⟨#[]⟩)), .c (.v (.slice none 0 0)), .c (.v (.slice none 0 0))]]⟩),
        (56, ⟨true, 49, 5, rA JT.cells xs⟩)]) 800 (fun q => xs.length - q.1) ⟨0, Nat.zero_le _⟩ ?_ ?_
    · simp only [rA_len, rA_sc, rA_ren, Weak, eq_self, used_is, sc_any, sc_c, sc_pp, sc_ref, sc_row, sc_agg, sc_fn, ScL, some_imp, List.forall_mem_map, go_sem, Int.reduceBEq, Int.reduceLE, Int.reduceLT, Int.reduceNeg, Nat.reduceAdd, Nat.reduceEqDiff, Nat.reduceLT, Nat.reduceLeDiff, Nat.reduceMul, Nat.reduceSub, reduceCtorEq, ↓reduceIte]
      try simp
    clear hI hKc
    rintro ⟨i, hi⟩
    simp only []
    refine walkG ?_
    refine VC.cond (by rfl) (by trivial) (fun hc => ?_) (fun hc => ?_)
    · have hlt : i < xs.length := by simp at hc; omega
      obtain ⟨x, hxi⟩ : ∃ x, xs[i]? = some x := ⟨xs[i], List.getElem?_eq_getElem hlt⟩
      have hxp : (rA JT.cells xs)[i]? = some (x.cells.map .c) := rA_at hxi
      have hw : IntKind.i64.wrap ((i : Int) + 1) = (i : Int) + 1 := wrap64_id (by omega) (by omega)
      have hT := hx x (List.mem_of_getElem? hxi)
      have hset : (rA JT.cells xs).set i (x.cells.map .c) = rA JT.cells xs := by
        rw [rA_set]
        congr 1
        obtain ⟨h1, rfl⟩ := List.getElem?_eq_some_iff.1 hxi
        exact List.set_getElem_self h1
      have hdr : (x.cells.map AV.c).drop 5 = [] := List.drop_eq_nil_of_le (by rw [List.length_map, len_cells]; exact Nat.le_refl _)
      simp only [JT.av_eq] at hT
      refine walkGF (And.intro @rA_len (And.intro hxp (And.intro @len_cells (And.intro @take_cells @take_cellsC)))) ?_
      refine walkCF (@pureL_c) (hT) ?_
      refine walkGF (And.intro @rA_len (And.intro hxp (And.intro @len_cells (And.intro @take_cells (And.intro @take_cellsC (And.intro hdr (And.intro hset hw))))))) ?_
      refine .next ⟨i + 1, by omega⟩ ?_ (by simp only []; omega)
      simp only [rA_len, rA_sc, hdr, hset, Weak, eq_self, used_is, sc_any, sc_c, sc_pp, sc_ref, sc_row, sc_agg, sc_fn, ScL, some_imp, List.forall_mem_map, go_sem, Int.reduceBEq, Int.reduceLE, Int.reduceLT, Int.reduceNeg, Nat.reduceAdd, Nat.reduceEqDiff, Nat.reduceLT, Nat.reduceLeDiff, Nat.reduceMul, Nat.reduceSub, reduceCtorEq, ↓reduceIte]
      exact ⟨cI (by omega), Nat.le_refl _⟩
    · refine walkG ?_
      refine ⟨by first | exact .inr rfl | exact .inl rfl, ?_⟩; rw [Tryz.results55]; simp only [resOk, resV, go_sem, Int.reduceBEq, Int.reduceLE, Int.reduceLT, Int.reduceNeg, Nat.reduceAdd, Nat.reduceEqDiff, Nat.reduceLT, Nat.reduceLeDiff, Nat.reduceMul, Nat.reduceSub, reduceCtorEq, ↓reduceIte]
      exact Frz.aggL (.cons (.c _) (.cons (.c _) (.cons (.c _) (.cons (frz_rA (f := JT.cells) (l := xs) (T := 49) rfl rfl rfl fun x _ => len_cells x) (.cons (.c _) .nil)))))

end Go.Proofs.YtmmffaelkoinlaaGreatDoor

namespace Go.Proofs.YtmmffaelkoinlaaGreatDoor
open Go.RowKit
set_option linter.unusedVariables false
set_option linter.unusedSimpArgs false
attribute [local go_sem] opx opE ev okx gcond bnd okO AV.get AV.okb cAV upd_at putd_some putd_none wrs_nil wrs_cons look_nil look_cons st argT_at bpick_and bpick_or bpick_true bpick_false binV binI binS binVOk binOk isShift binSOk unV unVOk loadV loadP cellsA zeroA Blkd.len setE grown moreA moreR moreOk eqRes pv fillA fillE putSeg AV.cellish AV.pureL AV.pureB lentL_is ex_some AV.ren AV.renL renL_c Blkd.ren rho wrM renN lentOk rhoE keepM endOk tyA_2 tyA_3 tyA_4 tyA_5 tyA_6 tyA_7 tyA_8 tyA_9 tyA_10 tyA_11 tyA_12 tyA_13 tyA_14 tyA_15 tyA_16 tyA_17 tyA_18 tyA_19 tyA_21 tyA_22 tyA_23 tyA_24 tyA_28 tyA_29 tyA_30 tyA_31 tyA_32 tyA_34 tyA_35 tyA_36 tyA_37 tyA_38 tyA_42 tyA_47 tyA_48 tyA_49 tyA_50 tyA_51 tyA_81 tyA_85 tyA_89 tyA_90 tyA_91 tyA_98 tyA_110 tyA_111 tyA_112 tyA_113 tyA_114 tyA_119 tyA_130 tyA_160 tyA_163 tyA_165 tyA_171 tyA_181 tyA_185 tyA_187 tyA_191 tyA_192 tyA_193 tyA_194 tyA_195 tyA_197 tyA_198 tyA_200 tyA_201 tyA_202 tyA_205 Option.map_some Option.map_none Option.getD_some Option.getD_none Option.bind_some Option.bind_none List.getElem?_cons_zero List.getElem?_cons_succ List.getElem?_nil List.getElem?_toArray List.length_cons List.length_nil List.length_map List.forall_mem_map List.map_cons List.map_nil List.drop_zero List.drop_succ_cons List.drop_nil List.take_zero List.take_succ_cons List.take_nil List.mem_cons List.not_mem_nil or_false forall_eq_or_imp forall_eq List.set_cons_zero List.set_cons_succ List.cons_append List.nil_append List.append_nil List.foldl_cons List.foldl_nil List.replicate_succ List.replicate_zero List.all_cons List.all_nil if_true if_false Bool.false_eq_true ne_eq not_false_eq_true not_true_eq_false true_and and_true and_self true_implies imp_self implies_true forall_const beq_self_eq_true Bool.and_true Bool.true_and Bool.and_false Bool.false_and Bool.or_true Bool.true_or Bool.or_false Bool.false_or Bool.not_true Bool.not_false Bool.not_eq_eq_eq_not intKindOf Value.oneCell' Int.toNat_natCast beq_true beq_false Bool.not_eq_true false_implies false_or true_or or_true Nat.zero_add Nat.add_zero decide_true decide_false Int.cast_ofNat_Int Int.toNat_zero Int.toNat_one eq_self

theorem rA_self {α : Type} {f : α → List PV} {l : List α} {i : Nat} {x : α} (h : l[i]? = some x) : (rA f l).set i ((f x).map .c) = rA f l := by
  rw [rA_set]
  congr 1
  obtain ⟨h1, rfl⟩ := List.getElem?_eq_some_iff.1 h
  exact List.set_getElem_self h1
/-- A node's cells, the fields' one given. -/
def nodeC (n : NT) (a : AV) : List AV := [.c (.v (.int .i64 n.kind)), .c (.v (.string (str n.name))), .c (.sl 1 (n.aliases.map sPV)), a, .c (.sl 1 (n.symbols.map sPV)), .c (.v (.bool n.has)), .c (.v (.string (str n.dflt))), .c (.v (.int .i64 n.size)), .c (.v (.int .i64 n.items)), .c (.sl 1 (n.branches.map iPV))]
def fieldC (f : FT) : List AV := .c (.v (.string (str f.name))) :: .c (.sl 1 (f.aliases.map sPV)) :: .c (.v (.int .i64 f.type)) :: .c (.v (.bool f.has)) :: f.dflt.cells.map .c
theorem nodeC_eq (n : NT) : n.cells.map AV.c = nodeC n (.c (.sl 9 (n.fields.map FT.cells))) := rfl
theorem fieldC_eq (f : FT) : f.cells.map AV.c = fieldC f := rfl
theorem set_at {α : Type} {l : List α} {i : Nat} (h : i < l.length) (x : α) : (l.set i x)[i]? = some x := by rw [List.getElem?_set, if_pos rfl, if_pos h]
set_option maxRecDepth 100000 in
set_option maxHeartbeats 3200000 in
theorem sCopy_told (s : ST) (hsm : s.sm 1000000) : Told Tryz.prog 22 [s.av] s.av := by
  obtain ⟨hl, hs⟩ := hsm
  rw [ST.av_eq, scells_mk]
  by_cases hxe : s.nodes = []
  · have hI := cloneN_told [] (by simp)
    simp only [List.map_nil] at hI
    rw [hxe, List.map_nil]
    refine VC.told ent_22 Tryz.func22 rfl Tryz.ntmps22 (by simp) (by first | rfl | simp [AV.pureB, AV.pureL, pureL_c, pures]) (by first | rfl | simp [AV.pureB, AV.pureL, pureL_c, pures]) fun hb => ?_
    clear hb
    refine walkG ?_
    refine walkC (hI) ?_
    refine walkG ?_
    refine VC.loop (ι := Unit) (fun _ => [(2, .ref 8 1 0 0), (3, .ref 64 1 0 0), (16, .c (.v (.int .i64 0))), (17, .c (.v (.int .i64 0)))])
      (fun _ => [(8, ⟨false, 24, 2, [[.c (.v (.slice none 0 0)), .c (.v (.int .i64 0))]]⟩), (64, ⟨false, 24, 2, [[.c (.sl 10 []), .c (.v (.int .i64 s.root))]]⟩)]) 800 (fun _ => 0) () ?_ ?_
    · simp only [Weak, eq_self, used_is, sc_any, sc_c, sc_pp, sc_ref, sc_row, sc_agg, sc_fn, ScL, some_imp, List.forall_mem_map, go_sem, Int.reduceBEq, Int.reduceLE, Int.reduceLT, Int.reduceNeg, Nat.reduceAdd, Nat.reduceEqDiff, Nat.reduceLT, Nat.reduceLeDiff, Nat.reduceMul, Nat.reduceSub, reduceCtorEq, ↓reduceIte]
      try simp
    rintro ⟨⟩
    refine walkB ?_
    refine ⟨by first | exact .inr rfl | exact .inl rfl, ?_⟩; rw [Tryz.results22]; simp only [resOk, resV, go_sem, Int.reduceBEq, Int.reduceLE, Int.reduceLT, Int.reduceNeg, Nat.reduceAdd, Nat.reduceEqDiff, Nat.reduceLT, Nat.reduceLeDiff, Nat.reduceMul, Nat.reduceSub, reduceCtorEq, ↓reduceIte]
    exact Frz.cs _ [.sl 10 [], .v (.int .i64 s.root)]
  · have hI := cloneN_toldM s.nodes hxe hl
    refine VC.told ent_22 Tryz.func22 rfl Tryz.ntmps22 (by simp) (by first | rfl | simp [AV.pureB, AV.pureL, pureL_c, pures]) (by first | rfl | simp [AV.pureB, AV.pureL, pureL_c, pures]) fun hb => ?_
    clear hb
    refine walkG ?_
    ((refine AO.step fun K hK => ?_; simp only [go_sem, Int.reduceBEq, Int.reduceLE, Int.reduceLT, Int.reduceNeg, Nat.reduceAdd, Nat.reduceEqDiff, Nat.reduceLT, Nat.reduceLeDiff, Nat.reduceMul, Nat.reduceSub, reduceCtorEq, ↓reduceIte]; (first | refine gsel_go ?_ | skip)); refine .inr (.inr (.inl ⟨?vy2, [], ?va2, ?vl2, ?vm2, ?cond2, ?cont2⟩)); (case cond2 => ((repeat' apply And.intro) <;> (try ((with_reducible show ToldM _ _ _ _ _ _); exact hI))); (all_goals first | trivial | (simp only [go_sem, Int.reduceBEq, Int.reduceLE, Int.reduceLT, Int.reduceNeg, Nat.reduceAdd, Nat.reduceEqDiff, Nat.reduceLT, Nat.reduceLeDiff, Nat.reduceMul, Nat.reduceSub, reduceCtorEq, ↓reduceIte]; done) | (simp; done) | rfl)); (first | refine hK _ _ _ ?_ | (simp only [go_sem, Int.reduceBEq, Int.reduceLE, Int.reduceLT, Int.reduceNeg, Nat.reduceAdd, Nat.reduceEqDiff, Nat.reduceLT, Nat.reduceLeDiff, Nat.reduceMul, Nat.reduceSub, reduceCtorEq, ↓reduceIte]; first | refine hK _ _ _ ?_ | refine ⟨rfl, hK _ _ _ ?_⟩)); clear hK K)
    refine walkGF (@rA_len) ?_
    clear hI
    refine VC.loop (ι := {i : Nat // i ≤ s.nodes.length}) (fun q => [(2, .ref 8 1 0 0), (3, .ref 64 1 0 0), (16, .c (.v (.int .i64 (s.nodes.length : Int)))), (17, .c (.v (.int .i64 (q.1 : Int))))])
      (fun _ => [(8, ⟨false, 24, 2, [[.c (.v (.slice none 0 0)), .c (.v (.int .i64 0))]]⟩), (64, ⟨false, 24, 2, [[.row 32 s.nodes.length, .c (.v (.int .i64 s.root))]]⟩),
        (32, ⟨true, 32, 10, rA NT.cells s.nodes⟩)]) 800 (fun q => s.nodes.length - q.1) ⟨0, Nat.zero_le _⟩ ?_ ?_
    · simp only [rA_len, rA_sc, rA_ren, Weak, eq_self, used_is, sc_any, sc_c, sc_pp, sc_ref, sc_row, sc_agg, sc_fn, ScL, some_imp, List.forall_mem_map, go_sem, Int.reduceBEq, Int.reduceLE, Int.reduceLT, Int.reduceNeg, Nat.reduceAdd, Nat.reduceEqDiff, Nat.reduceLT, Nat.reduceLeDiff, Nat.reduceMul, Nat.reduceSub, reduceCtorEq, ↓reduceIte]
      try simp
    rintro ⟨i, hi⟩
    simp only []
    refine walkG ?_
    refine VC.cond (by rfl) (by trivial) (fun hc => ?_) (fun hc => ?_)
    · have hlt : i < s.nodes.length := by simp at hc; omega
      obtain ⟨n, hn⟩ : ∃ n, s.nodes[i]? = some n := ⟨s.nodes[i], List.getElem?_eq_getElem hlt⟩
      have hxp : (rA NT.cells s.nodes)[i]? = some (nodeC n (.c (.sl 9 (n.fields.map FT.cells)))) := rA_at hn
      have hself : (rA NT.cells s.nodes).set i (nodeC n (.c (.sl 9 (n.fields.map FT.cells)))) = rA NT.cells s.nodes := rA_self hn
      have hw : IntKind.i64.wrap ((i : Int) + 1) = (i : Int) + 1 := wrap64_id (by omega) (by omega)
      have hns := hs n (List.mem_of_getElem? hn)
      obtain ⟨_, _, ⟨ha1, ha2⟩, ⟨hy1, hy2⟩, hb1, hf1, hf2⟩ := hns
      have hA := cloneS_told n.aliases ha1
      have hS := cloneS_told n.symbols hy1
      have hB := cloneI_told n.branches hb1
      simp only [nodeC] at hxp hself
      by_cases hfe : n.fields = []
      · have hF := cloneF_told [] (by simp)
        simp only [List.map_nil] at hF
        rw [hfe, List.map_nil] at hxp hself
        refine walkGF (And.intro @rA_len hxp) ?_
        refine walkC (hA) ?_
        refine walkGF (And.intro @rA_len hxp) ?_
        refine walkC (hF) ?_
        refine walkGF (And.intro @rA_len hxp) ?_
        refine walkC (hS) ?_
        refine walkGF (And.intro @rA_len hxp) ?_
        refine walkC (hB) ?_
        refine walkGF (And.intro @rA_len (And.intro hxp hself)) ?_
        refine VC.loop (ι := Unit) (fun _ => [(2, .ref 8 1 0 0), (3, .ref 64 1 0 0), (16, .c (.v (.int .i64 (s.nodes.length : Int)))), (17, .c (.v (.int .i64 (i : Int)))), (60, .c (.v (.int .i64 0))), (61, .c (.v (.int .i64 0)))])
          (fun _ => [(8, ⟨false, 24, 2, [[.c (.v (.slice none 0 0)), .c (.v (.int .i64 0))]]⟩), (64, ⟨false, 24, 2, [[.row 32 s.nodes.length, .c (.v (.int .i64 s.root))]]⟩),
            (32, ⟨true, 32, 10, rA NT.cells s.nodes⟩)]) 2000 (fun _ => 0) () ?_ ?_
        · simp only [rA_len, rA_sc, Weak, eq_self, used_is, sc_any, sc_c, sc_pp, sc_ref, sc_row, sc_agg, sc_fn, ScL, some_imp, List.forall_mem_map, go_sem, Int.reduceBEq, Int.reduceLE, Int.reduceLT, Int.reduceNeg, Nat.reduceAdd, Nat.reduceEqDiff, Nat.reduceLT, Nat.reduceLeDiff, Nat.reduceMul, Nat.reduceSub, reduceCtorEq, ↓reduceIte]
          exact Nat.le_refl _
        rintro ⟨⟩
        refine walkBF (hw) ?_
        refine .next ⟨i + 1, by omega⟩ ?_ (by simp only []; omega)
        simp only [rA_len, rA_sc, Weak, eq_self, used_is, sc_any, sc_c, sc_pp, sc_ref, sc_row, sc_agg, sc_fn, ScL, some_imp, List.forall_mem_map, go_sem, Int.reduceBEq, Int.reduceLE, Int.reduceLT, Int.reduceNeg, Nat.reduceAdd, Nat.reduceEqDiff, Nat.reduceLT, Nat.reduceLeDiff, Nat.reduceMul, Nat.reduceSub, reduceCtorEq, ↓reduceIte]
        exact ⟨cI (by omega), Nat.le_refl _⟩
      · have hF := cloneF_toldM n.fields hfe hf1
        have hlen : ((rA NT.cells s.nodes).set i (nodeC n (.row 968 n.fields.length))).length = s.nodes.length := by rw [List.length_set, rA_len]
        have hat : ((rA NT.cells s.nodes).set i (nodeC n (.row 968 n.fields.length)))[i]? = some (nodeC n (.row 968 n.fields.length)) := set_at (by rw [rA_len]; exact hlt) _
        simp only [nodeC] at hlen hat
        refine walkGF (And.intro @rA_len hxp) ?_
        refine walkC (hA) ?_
        refine walkGF (And.intro @rA_len hxp) ?_
        ((refine AO.step fun K hK => ?_; simp only [go_sem, Int.reduceBEq, Int.reduceLE, Int.reduceLT, Int.reduceNeg, Nat.reduceAdd, Nat.reduceEqDiff, Nat.reduceLT, Nat.reduceLeDiff, Nat.reduceMul, Nat.reduceSub, reduceCtorEq, ↓reduceIte]; (first | refine gsel_go ?_ | skip)); refine .inr (.inr (.inl ⟨?vy3, [], ?va3, ?vl3, ?vm3, ?cond3, ?cont3⟩)); (case cond3 => ((repeat' apply And.intro) <;> (try ((with_reducible show ToldM _ _ _ _ _ _); exact hF))); (all_goals first | trivial | (simp only [go_sem, Int.reduceBEq, Int.reduceLE, Int.reduceLT, Int.reduceNeg, Nat.reduceAdd, Nat.reduceEqDiff, Nat.reduceLT, Nat.reduceLeDiff, Nat.reduceMul, Nat.reduceSub, reduceCtorEq, ↓reduceIte]; done) | (simp; done) | rfl)); (first | refine hK _ _ _ ?_ | (simp only [go_sem, Int.reduceBEq, Int.reduceLE, Int.reduceLT, Int.reduceNeg, Nat.reduceAdd, Nat.reduceEqDiff, Nat.reduceLT, Nat.reduceLeDiff, Nat.reduceMul, Nat.reduceSub, reduceCtorEq, ↓reduceIte]; first | refine hK _ _ _ ?_ | refine ⟨rfl, hK _ _ _ ?_⟩)); clear hK K)
        refine walkGF (And.intro @rA_len hxp) ?_
        refine walkC (hS) ?_
        refine walkGF (And.intro @rA_len hxp) ?_
        refine walkC (hB) ?_
        (repeat (first | refine pass ?_ | refine VC.region (by rfl) (by rfl) ?_ | (refine AO.step fun K hK => ?_; simp only [rA_len, hxp, hself, hlen, hat, List.set_set, go_sem, Int.reduceBEq, Int.reduceLE, Int.reduceLT, Int.reduceNeg, Nat.reduceAdd, Nat.reduceEqDiff, Nat.reduceLT, Nat.reduceLeDiff, Nat.reduceMul, Nat.reduceSub, reduceCtorEq, ↓reduceIte]; (first | refine gsel_skip ?_ | refine gsel_go ?_ | skip); (first | refine hK _ _ _ ?_ | refine ⟨by first | omega | exact ⟨_, rfl, rfl⟩ | exact fun _ => ⟨_, rfl, rfl⟩ | (intro h; simp only [rA_len, hxp, hself, hlen, hat, List.set_set, h, true_and]; omega) | (clear hK; intro h; simp_all <;> omega), hK _ _ _ ?_⟩); clear hK K) | refine VC.draw mixP (by rfl) (by rfl) ?_ | refine ⟨okd_of (by kernel_rfl), ?_⟩ | refine BQ.other (by decide) ?_ | refine VC.seq ?_ | refine AO.nil ?_ | refine VC.block ?_))
        have hscs : ∀ {used : Nat → Prop} {h : Nat → Option Blkd}, used 968 → (∀ B, h 968 = some B → n.fields.length ≤ B.len) → ∀ e ∈ (rA NT.cells s.nodes).set i (nodeC n (.row 968 n.fields.length)), ∀ x ∈ e, Sc used h x := by
          intro used h hu hB e he x hx
          rcases List.mem_or_eq_of_mem_set he with h1 | h1
          · exact (rA_sc NT.cells s.nodes).mpr trivial e h1 x hx
          · subst h1
            simp only [nodeC, List.mem_cons, List.not_mem_nil, or_false] at hx
            rcases hx with rfl | rfl | rfl | rfl | rfl | rfl | rfl | rfl | rfl | rfl <;> first | exact .c | exact .row hu hB
        simp only [nodeC] at hscs
        clear hA hS hB hF
        refine VC.loop (ι := {k : Nat // k ≤ n.fields.length}) (fun q => [(2, .ref 8 1 0 0), (3, .ref 64 1 0 0), (5, .ref 32 s.nodes.length i 0), (16, .c (.v (.int .i64 (s.nodes.length : Int)))), (17, .c (.v (.int .i64 (i : Int)))), (60, .c (.v (.int .i64 (n.fields.length : Int)))), (61, .c (.v (.int .i64 (q.1 : Int))))])
          (fun _ => [(8, ⟨false, 24, 2, [[.c (.v (.slice none 0 0)), .c (.v (.int .i64 0))]]⟩), (64, ⟨false, 24, 2, [[.row 32 s.nodes.length, .c (.v (.int .i64 s.root))]]⟩),
            (32, ⟨true, 32, 10, (rA NT.cells s.nodes).set i [.c (.v (.int .i64 n.kind)), .c (.v (.string (str n.name))), .c (.sl 1 (n.aliases.map sPV)), .row 968 n.fields.length, .c (.sl 1 (n.symbols.map sPV)), .c (.v (.bool n.has)), .c (.v (.string (str n.dflt))), .c (.v (.int .i64 n.size)), .c (.v (.int .i64 n.items)), .c (.sl 1 (n.branches.map iPV))]⟩),
            (968, ⟨true, 51, 9, rA FT.cells n.fields⟩)]) 2000 (fun q => n.fields.length - q.1) ⟨0, Nat.zero_le _⟩ ?_ ?_
        · simp only [rA_len, rA_sc, rA_ren, List.set_set, hlen, Weak, eq_self, used_is, sc_any, sc_c, sc_pp, sc_ref, sc_row, sc_agg, sc_fn, ScL, some_imp, List.forall_mem_map, go_sem, Int.reduceBEq, Int.reduceLE, Int.reduceLT, Int.reduceNeg, Nat.reduceAdd, Nat.reduceEqDiff, Nat.reduceLT, Nat.reduceLeDiff, Nat.reduceMul, Nat.reduceSub, reduceCtorEq, ↓reduceIte]
          refine ⟨Nat.le_refl _, Nat.le_refl _, hscs (.inl (by omega)) fun B hB => ?_⟩
          obtain rfl := Option.some.inj hB
          exact Nat.le_of_eq (rA_len _ _).symm
        rintro ⟨k, hk⟩
        simp only []
        refine walkGF (hlen) ?_
        refine VC.cond (by rfl) (by trivial) (fun hc2 => ?_) (fun hc2 => ?_)
        · have hkl : k < n.fields.length := by simp at hc2; omega
          obtain ⟨f, hf⟩ : ∃ f, n.fields[k]? = some f := ⟨n.fields[k], List.getElem?_eq_getElem hkl⟩
          have hfp : (rA FT.cells n.fields)[k]? = some (fieldC f) := rA_at hf
          have hfself : (rA FT.cells n.fields).set k (fieldC f) = rA FT.cells n.fields := rA_self hf
          have hwk : IntKind.i64.wrap ((k : Int) + 1) = (k : Int) + 1 := wrap64_id (by omega) (by omega)
          obtain ⟨_, hfa1, _, hfd⟩ := hf2 f (List.mem_of_getElem? hf)
          have hA := cloneS_told f.aliases hfa1
          have hT := tree_told _ f.dflt (Nat.le_refl _) hfd
          have hdr : (f.dflt.cells.map AV.c).drop 5 = [] := List.drop_eq_nil_of_le (by rw [List.length_map, len_cells]; exact Nat.le_refl _)
          simp only [fieldC] at hfp hfself
          simp only [JT.av_eq] at hT
          refine walkGF (And.intro hlen (And.intro hat (And.intro @rA_len hfp))) ?_
          refine walkC (hA) ?_
          refine walkGF (And.intro hlen (And.intro hat (And.intro @rA_len (And.intro hfp (And.intro @len_cells (And.intro @take_cells @take_cellsC)))))) ?_
          refine walkCF (@pureL_c) (hT) ?_
          refine walkGF (And.intro hlen (And.intro hat (And.intro @rA_len (And.intro hfp (And.intro @len_cells (And.intro @take_cells (And.intro @take_cellsC (And.intro hdr (And.intro hfself hwk))))))))) ?_
          refine .next ⟨k + 1, by omega⟩ ?_ (by simp only []; omega)
          simp only [rA_len, rA_sc, hlen, Weak, eq_self, used_is, sc_any, sc_c, sc_pp, sc_ref, sc_row, sc_agg, sc_fn, ScL, some_imp, List.forall_mem_map, go_sem, Int.reduceBEq, Int.reduceLE, Int.reduceLT, Int.reduceNeg, Nat.reduceAdd, Nat.reduceEqDiff, Nat.reduceLT, Nat.reduceLeDiff, Nat.reduceMul, Nat.reduceSub, reduceCtorEq, ↓reduceIte]
          refine ⟨cI (by omega), Nat.le_refl _, Nat.le_refl _, hscs (.inl (by omega)) fun B hB => ?_⟩
          obtain rfl := Option.some.inj hB
          exact Nat.le_of_eq (rA_len _ _).symm
        · refine VC.frz [968] [(2, .ref 8 1 0 0), (3, .ref 64 1 0 0), (16, .c (.v (.int .i64 (s.nodes.length : Int)))), (17, .c (.v (.int .i64 (i : Int))))]
            [(8, ⟨false, 24, 2, [[.c (.v (.slice none 0 0)), .c (.v (.int .i64 0))]]⟩), (64, ⟨false, 24, 2, [[.row 32 s.nodes.length, .c (.v (.int .i64 s.root))]]⟩), (32, ⟨true, 32, 10, rA NT.cells s.nodes⟩)] 4000 ?_ ?_
          · simp only [rA_len, rA_sc, WeakF, used_is, sc_any, sc_c, sc_pp, sc_ref, sc_row, sc_agg, sc_fn, ScL, some_imp, List.forall_mem_map, go_sem, Int.reduceBEq, Int.reduceLE, Int.reduceLT, Int.reduceNeg, Nat.reduceAdd, Nat.reduceEqDiff, Nat.reduceLT, Nat.reduceLeDiff, Nat.reduceMul, Nat.reduceSub, reduceCtorEq, ↓reduceIte]
            refine ⟨⟨.same _, .same _, .same _, .same _⟩, ⟨.same _, .same _, ?_⟩, Nat.le_refl _⟩
            have hfb := FB.set (F := [968]) (h := look none [(8, some ⟨false, 24, 2, [[.c (.v (.slice none 0 0)), .c (.v (.int .i64 0))]]⟩), (64, some ⟨false, 24, 2, [[.row 32 s.nodes.length, .c (.v (.int .i64 s.root))]]⟩),
              (32, some ⟨true, 32, 10, (rA NT.cells s.nodes).set i [.c (.v (.int .i64 n.kind)), .c (.v (.string (str n.name))), .c (.sl 1 (n.aliases.map sPV)), .row 968 n.fields.length, .c (.sl 1 (n.symbols.map sPV)), .c (.v (.bool n.has)), .c (.v (.string (str n.dflt))), .c (.v (.int .i64 n.size)), .c (.v (.int .i64 n.items)), .c (.sl 1 (n.branches.map iPV))]⟩),
              (968, some ⟨true, 51, 9, rA FT.cells n.fields⟩)]) (row := true) (T := 32) (z := 10) hat
              (e' := [.c (.v (.int .i64 n.kind)), .c (.v (.string (str n.name))), .c (.sl 1 (n.aliases.map sPV)), .c (.sl 9 (n.fields.map FT.cells)), .c (.sl 1 (n.symbols.map sPV)), .c (.v (.bool n.has)), .c (.v (.string (str n.dflt))), .c (.v (.int .i64 n.size)), .c (.v (.int .i64 n.items)), .c (.sl 1 (n.branches.map iPV))])
              (.cons (.same _) (.cons (.same _) (.cons (.same _) (.cons (.row (B := ⟨true, 51, 9, rA FT.cells n.fields⟩) (es := n.fields.map FT.cells) (by simp) rfl rfl (rA_len _ _) (rA_pv _ _)) (FVL.same _ _ _))))) (by simp [AV.cellish])
            rw [List.set_set, hself] at hfb
            exact hfb
          refine walkGF (hw) ?_
          refine .next ⟨i + 1, by omega⟩ ?_ (by simp only []; omega)
          simp only [rA_len, rA_sc, Weak, eq_self, used_is, sc_any, sc_c, sc_pp, sc_ref, sc_row, sc_agg, sc_fn, ScL, some_imp, List.forall_mem_map, go_sem, Int.reduceBEq, Int.reduceLE, Int.reduceLT, Int.reduceNeg, Nat.reduceAdd, Nat.reduceEqDiff, Nat.reduceLT, Nat.reduceLeDiff, Nat.reduceMul, Nat.reduceSub, reduceCtorEq, ↓reduceIte]
          exact ⟨cI (by omega), Nat.le_refl _⟩
    · refine walkG ?_
      refine ⟨by first | exact .inr rfl | exact .inl rfl, ?_⟩; rw [Tryz.results22]; simp only [resOk, resV, go_sem, Int.reduceBEq, Int.reduceLE, Int.reduceLT, Int.reduceNeg, Nat.reduceAdd, Nat.reduceEqDiff, Nat.reduceLT, Nat.reduceLeDiff, Nat.reduceMul, Nat.reduceSub, reduceCtorEq, ↓reduceIte]
      exact Frz.aggL (.cons (frz_rA (f := NT.cells) (l := s.nodes) (T := 32) rfl rfl rfl fun x _ => len_ncells x) (.cons (.c _) .nil))

end Go.Proofs.YtmmffaelkoinlaaGreatDoor
