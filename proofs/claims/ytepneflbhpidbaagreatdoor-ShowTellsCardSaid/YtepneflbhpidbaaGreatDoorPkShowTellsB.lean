/- Texts that lead to the law ShowTells, joined. -/
import Derived.Test.YtepneflbhpidbaaGreatDoorPkShowTellsA
import Derived.Test.YtepneflbhpidbaaGreatDoorPkShowTellsXTy
import Derived.Lib.Bytealg
import Derived.Test.YtepneflbhpidbaaGreatDoorShelf
import Derived.Test.YtepneflbhpidbaaGreatDoorPkShowTellsXAbB
namespace Go.Proofs.YtepneflbhpidbaaGreatDoor
set_option maxRecDepth 100000
set_option maxHeartbeats 6400000
open Go.RowKit
set_option linter.unusedVariables false
set_option linter.unusedSimpArgs false
section
attribute [local go_sem] opx opE ev okx gcond bnd okO AV.get AV.okb cAV upd_at putd_some putd_none wrs_nil wrs_cons look_nil look_cons st argT_at bpick_and bpick_or bpick_true bpick_false binV binI binS binVOk binOk isShift binSOk unV unVOk loadV loadP cellsA zeroA Blkd.len setE grown moreA moreR moreOk eqRes pv fillA fillE putSeg AV.cellish AV.pureL AV.pureB lentL_is ex_some AV.ren AV.renL renL_c Blkd.ren rho wrM renN lentOk rhoE keepM endOk tyA_2 tyA_3 tyA_4 tyA_5 tyA_6 tyA_7 tyA_8 tyA_9 tyA_10 tyA_11 tyA_12 tyA_13 tyA_14 tyA_15 tyA_16 tyA_17 tyA_18 tyA_19 tyA_21 tyA_22 tyA_23 tyA_24 tyA_29 tyA_30 tyA_31 tyA_32 tyA_33 tyA_34 tyA_35 tyA_36 tyA_37 tyA_38 tyA_39 tyA_40 tyA_41 tyA_42 tyA_43 tyA_48 tyA_72 tyA_76 tyA_85 tyA_86 tyA_87 tyA_88 tyA_97 tyA_100 tyA_101 tyA_102 tyA_103 tyA_104 tyA_105 tyA_106 tyA_128 tyA_137 tyA_138 tyA_139 tyA_140 tyA_141 tyA_142 tyA_147 tyA_148 tyA_149 tyA_167 tyA_168 tyA_169 tyA_170 tyA_172 tyA_176 tyA_177 tyA_178 tyA_186 tyA_196 tyA_231 tyA_232 tyA_233 tyA_257 tyA_262 tyA_268 tyA_270 tyA_272 tyA_281 tyA_285 tyA_287 tyA_290 tyA_291 tyA_292 tyA_293 tyA_294 tyA_295 tyA_296 tyA_298 tyA_299 Option.map_some Option.map_none Option.getD_some Option.getD_none Option.bind_some Option.bind_none List.getElem?_cons_zero List.getElem?_cons_succ List.getElem?_nil List.getElem?_toArray List.length_cons List.length_nil List.length_map List.forall_mem_map List.map_cons List.map_nil List.drop_zero List.drop_succ_cons List.drop_nil List.take_zero List.take_succ_cons List.take_nil List.mem_cons List.not_mem_nil or_false forall_eq_or_imp forall_eq List.set_cons_zero List.set_cons_succ List.cons_append List.nil_append List.append_nil List.foldl_cons List.foldl_nil List.replicate_succ List.replicate_zero List.all_cons List.all_nil if_true if_false Bool.false_eq_true ne_eq not_false_eq_true not_true_eq_false true_and and_true and_self true_implies imp_self implies_true forall_const beq_self_eq_true Bool.and_true Bool.true_and Bool.and_false Bool.false_and Bool.or_true Bool.true_or Bool.or_false Bool.false_or Bool.not_true Bool.not_false Bool.not_eq_eq_eq_not intKindOf Value.oneCell' Int.toNat_natCast beq_true beq_false Bool.not_eq_true false_implies false_or true_or or_true Nat.zero_add Nat.add_zero decide_true decide_false Int.cast_ofNat_Int Int.toNat_zero Int.toNat_one eq_self

def bkeys5 : Nat → List (List UInt8) → Option Nat
 | n, [] => some n
 | n, y :: ys => if n ≤ 2500 then (if 2500 < y.length then none else bkeys5 (n + 1 + y.length) ys) else some n
mutual
def tbulk5 (d : Nat) : JT → Nat
 | .mk k n s ks xs => if 60 < d ∨ 2500 < s.length ∨ 2500 < ks.length ∨ 2500 < xs.length then 2501 else match bkeys5 (1 + s.length) ks with | none => 2501 | some n => bitems5 d n xs
def bitems5 (d : Nat) : Nat → List JT → Nat
 | n, [] => n
 | n, x :: xs => if n ≤ 2500 then bitems5 d (n + tbulk5 (d + 1) x) xs else n
end
theorem bkeys5_le : ∀ (ys : List (List UInt8)) (n m : Nat), n ≤ 5001 → bkeys5 n ys = some m → m ≤ 5001
 | [], n, m, h, e => by simp [bkeys5] at e; omega
 | y :: ys, n, m, h, e => by
   rw [bkeys5] at e
   split at e
   · split at e
     · simp at e
     · exact bkeys5_le ys _ m (by omega) e
   · simp at e; omega
mutual
theorem tbulk5_le (d : Nat) : ∀ (t : JT), tbulk5 d t ≤ 5001 + 2501 * (61 - d)
 | .mk k n s ks xs => by
   rw [tbulk5]
   split
   · omega
   · rename_i h
     split
     · omega
     · rename_i m hm
       exact bitems5_le d xs m (by have := bkeys5_le ks _ _ (by omega) hm; omega)
theorem bitems5_le (d : Nat) : ∀ (xs : List JT) (n : Nat), n ≤ 5001 + 2501 * (61 - d) → bitems5 d n xs ≤ 5001 + 2501 * (61 - d)
 | [], n, h => by rw [bitems5]; exact h
 | x :: xs, n, h => by
   rw [bitems5]
   split
   · have := tbulk5_le (d + 1) x
     by_cases hd : 60 < d
     · have h2 : tbulk5 (d + 1) x = 2501 := by
        cases x
        rw [tbulk5, if_pos (by omega)]
       exact bitems5_le d xs _ (by omega)
     · exact bitems5_le d xs _ (by omega)
   · exact h
end
theorem bitems5_ge (d : Nat) : ∀ (xs : List JT) (n : Nat), n ≤ bitems5 d n xs
 | [], n => by rw [bitems5]; exact Nat.le_refl _
 | x :: xs, n => by
   rw [bitems5]
   split
   · exact Nat.le_trans (Nat.le_add_right _ _) (bitems5_ge d xs _)
   · exact Nat.le_refl _
mutual
theorem tbulk5_deep (d : Nat) : ∀ (t : JT), tbulk5 d t ≤ 2500 → tdeep t + d ≤ 61
 | .mk k n s ks xs => fun h => by
   rw [tbulk5] at h
   split at h
   · omega
   · rename_i hd
     split at h
     · omega
     · rw [tdeep]
       split
       · exact bitems5_deep d xs _ 1 (by omega) h
       · omega
theorem bitems5_deep (d : Nat) : ∀ (xs : List JT) (n m : Nat), m + d ≤ 61 → bitems5 d n xs ≤ 2500 → tdeeps m xs + d ≤ 61
 | [], n, m, hm, h => by rw [tdeeps]; exact hm
 | x :: xs, n, m, hm, h => by
   rw [bitems5] at h
   split at h
   · have h1 := bitems5_ge d xs (n + tbulk5 (d + 1) x)
     have h2 := tbulk5_deep (d + 1) x (by omega)
     rw [tdeeps]
     exact bitems5_deep d xs _ _ (by omega) h
   · omega
end
theorem bkeys5_step {ks : List (List UInt8)} {i n : Nat} {y : List UInt8} (hy : ks[i]? = some y) (hn : n ≤ 2500) (hl : y.length ≤ 2500) : bkeys5 n (ks.drop i) = bkeys5 (n + 1 + y.length) (ks.drop (i + 1)) := by
 obtain ⟨hlt, rfl⟩ := List.getElem?_eq_some_iff.1 hy
 rw [List.drop_eq_getElem_cons hlt, bkeys5, if_pos hn, if_neg (by omega)]
theorem bkeys5_none {ks : List (List UInt8)} {i n : Nat} {y : List UInt8} (hy : ks[i]? = some y) (hn : n ≤ 2500) (hl : 2500 < y.length) : bkeys5 n (ks.drop i) = none := by
 obtain ⟨hlt, rfl⟩ := List.getElem?_eq_some_iff.1 hy
 rw [List.drop_eq_getElem_cons hlt, bkeys5, if_pos hn, if_pos hl]
theorem bkeys5_end {ks : List (List UInt8)} {i n : Nat} (h : ¬ (i < ks.length ∧ n ≤ 2500)) : bkeys5 n (ks.drop i) = some n := by
 by_cases hlt : i < ks.length
 · rw [List.drop_eq_getElem_cons hlt, bkeys5, if_neg (by omega)]
 · rw [List.drop_of_length_le (by omega), bkeys5]
theorem bitems5_step {d : Nat} {xs : List JT} {i n : Nat} {x : JT} (hx : xs[i]? = some x) (hn : n ≤ 2500) : bitems5 d n (xs.drop i) = bitems5 d (n + tbulk5 (d + 1) x) (xs.drop (i + 1)) := by
 obtain ⟨hlt, rfl⟩ := List.getElem?_eq_some_iff.1 hx
 rw [List.drop_eq_getElem_cons hlt, bitems5, if_pos hn]
theorem bitems5_end {d : Nat} {xs : List JT} {i n : Nat} (h : ¬ (i < xs.length ∧ n ≤ 2500)) : bitems5 d n (xs.drop i) = n := by
 by_cases hlt : i < xs.length
 · rw [List.drop_eq_getElem_cons hlt, bitems5, if_neg (by omega)]
 · rw [List.drop_of_length_le (by omega), bitems5]
theorem bulk_told5 : ∀ (m : Nat) (t : JT), SizeOf.sizeOf t ≤ m → ∀ (d : Nat) (z : Int), d ≤ 61 → z = (d : Int) → Told Tryz.prog 66 [t.av, .c (.v (.int .i64 2500)), .c (.v (.int .i64 z))] (.c (.v (.int .i64 (tbulk5 d t)))) := by
 intro m
 induction m with
 | zero => intro t ht; cases t; simp at ht
 | succ m ih =>
 intro t ht d z hd hz
 cases t with
 | mk k n s ks xs =>
 have hbl := tbulk5_le d (.mk k n s ks xs)
 have hbi := bitems5_le d xs
 refine VC.told ent_66 Tryz.func66 rfl Tryz.ntmps66 (by simp) rfl rfl fun hb => ?_
 simp only [JT.av, cells_mk, List.map_cons, List.map_nil, abd_agg, abd_c, pbd_v, pbd_sl, List.mem_cons, List.not_mem_nil, or_false, forall_eq_or_imp, forall_eq, true_and, List.length_map] at hb ⊢
 clear hb
 have hw21 : IntKind.i64.wrap (2500 + 1) = 2501 := by rfl
 rw [tbulk5] at hbl ⊢
 refine walkGF (@str_size) ?_
 refine VC.cond (by rfl) (by trivial) (fun hc => ?_) (fun hc => ?_)
 · have hcc : 60 < d ∨ 2500 < s.length ∨ 2500 < ks.length ∨ 2500 < xs.length := by
    simp at hc
    omega
   rw [if_pos hcc]
   refine walkGF (hw21) ?_
   refine ⟨.inr rfl, ?_⟩
   rw [Tryz.results66]
   simp only [resOk, resV, go_sem, simprocAttr]
   exact .c _
 · have hcc : ¬ (60 < d ∨ 2500 < s.length ∨ 2500 < ks.length ∨ 2500 < xs.length) := by
    simp at hc
    omega
   rw [if_neg hcc] at hbl ⊢
   clear hc
   obtain ⟨V, hV⟩ : ∃ V, V = bkeys5 (1 + s.length) ks := ⟨_, rfl⟩
   rw [← hV] at hbl ⊢
   have hw1 : IntKind.i64.wrap (1 + (s.length : Int)) = 1 + (s.length : Int) := wrap64_id (by omega) (by omega)
   refine walkGF (And.intro @cells_mk (And.intro @str_size hw1)) ?_
   refine VC.loop (ι := {p : Nat × Nat // p.1 ≤ ks.length ∧ p.2 ≤ 5001 ∧ bkeys5 p.2 (ks.drop p.1) = V}) (fun p => [(1, .c (.v (.int .i64 2500))), (2, .c (.v (.int .i64 z))), (3, .ref 0 1 0 0), (7, .c (.v (.int .i64 p.1.2))), (8, .c (.v (.int .i64 p.1.1)))])
    (fun _ => [(0, ⟨false, 36, 5, [(JT.mk k n s ks xs).cells.map .c]⟩)]) 8 (fun p => ks.length - p.1.1) ⟨(0, 1 + s.length), Nat.zero_le _, by simp only []; omega, by simpa using hV.symm⟩ ?_ ?_
   · simp only [cells_mk, Weak, eq_self, used_is, sc_any, sc_c, sc_pp, sc_ref, sc_row, sc_agg, sc_fn, ScL, some_imp, List.forall_mem_map, go_sem, Int.reduceBEq, Int.reduceLE, Int.reduceLT, Int.reduceNeg, Nat.reduceAdd, Nat.reduceEqDiff, Nat.reduceLT, Nat.reduceLeDiff, Nat.reduceMul, Nat.reduceSub, reduceCtorEq, ↓reduceIte]
     all_goals first | rfl | exact cI (by omega)
   rintro ⟨⟨i, b⟩, hi, hb, hbk⟩
   simp only [] at hi hb hbk ⊢
   refine walkGF (@cells_mk) ?_
   refine VC.cond (by rfl) (by trivial) (fun hc => ?_) (fun hc => ?_)
   · have hcc : i < ks.length ∧ b ≤ 2500 := by
      simp at hc
      omega
     clear hc
     obtain ⟨y, hy⟩ : ∃ y, ks[i]? = some y := ⟨ks[i], List.getElem?_eq_getElem hcc.1⟩
     (repeat (first | refine pass ?_ | refine VC.region (by rfl) (by rfl) ?_ | (refine AO.step fun K hK => ?_; simp only [cells_mk, List.getElem?_map, hy, sPV, str_size, go_sem, Int.reduceBEq, Int.reduceLE, Int.reduceLT, Int.reduceNeg, Nat.reduceAdd, Nat.reduceEqDiff, Nat.reduceLT, Nat.reduceLeDiff, Nat.reduceMul, Nat.reduceSub, reduceCtorEq, ↓reduceIte]; (first | refine gsel_skip ?_ | refine gsel_go ?_ | skip); (first | refine hK _ _ _ ?_ | refine ⟨by first | omega | exact ⟨_, rfl, rfl⟩ | exact fun _ => ⟨_, rfl, rfl⟩ | (intro h; simp only [cells_mk, List.getElem?_map, hy, sPV, str_size, h, true_and]; omega) | (clear hK; intro h; simp_all <;> omega), hK _ _ _ ?_⟩); clear hK K) | refine VC.draw mixP (by rfl) (by rfl) ?_ | refine ⟨okd_of (by kernel_rfl), ?_⟩ | refine BQ.other (by decide) ?_ | refine VC.seq ?_ | refine AO.nil ?_ | refine VC.block ?_))
     refine VC.cond (by rfl) (by trivial) (fun hc => ?_) (fun hc => ?_)
     · have hl : 2500 < y.length := by
        simp at hc
        omega
       obtain rfl : V = none := hbk.symm.trans (bkeys5_none hy hcc.2 hl)
       refine walkGF (hw21) ?_
       refine ⟨.inr rfl, ?_⟩
       rw [Tryz.results66]
       simp only [resOk, resV, go_sem, simprocAttr]
       exact .c _
     · have hl : y.length ≤ 2500 := by
        simp at hc
        omega
       have hw2 : IntKind.i64.wrap ((b : Int) + 1) = (b : Int) + 1 := wrap64_id (by omega) (by omega)
       have hw3 : IntKind.i64.wrap ((b : Int) + 1 + (y.length : Int)) = (b : Int) + 1 + (y.length : Int) := wrap64_id (by omega) (by omega)
       have hw4 : IntKind.i64.wrap ((i : Int) + 1) = (i : Int) + 1 := wrap64_id (by omega) (by omega)
       (repeat (first | refine pass ?_ | refine VC.region (by rfl) (by rfl) ?_ | (refine AO.step fun K hK => ?_; simp only [cells_mk, List.getElem?_map, hy, sPV, str_size, hw2, hw3, hw4, go_sem, Int.reduceBEq, Int.reduceLE, Int.reduceLT, Int.reduceNeg, Nat.reduceAdd, Nat.reduceEqDiff, Nat.reduceLT, Nat.reduceLeDiff, Nat.reduceMul, Nat.reduceSub, reduceCtorEq, ↓reduceIte]; (first | refine gsel_skip ?_ | refine gsel_go ?_ | skip); (first | refine hK _ _ _ ?_ | refine ⟨by first | omega | exact ⟨_, rfl, rfl⟩ | exact fun _ => ⟨_, rfl, rfl⟩ | (intro h; simp only [cells_mk, List.getElem?_map, hy, sPV, str_size, hw2, hw3, hw4, h, true_and]; omega) | (clear hK; intro h; simp_all <;> omega), hK _ _ _ ?_⟩); clear hK K) | refine VC.draw mixP (by rfl) (by rfl) ?_ | refine ⟨okd_of (by kernel_rfl), ?_⟩ | refine BQ.other (by decide) ?_ | refine VC.seq ?_ | refine AO.nil ?_ | refine VC.block ?_))
       refine .next ⟨(i + 1, b + 1 + y.length), by simp only []; omega, by simp only []; omega, by simp only []; rw [← hbk, bkeys5_step hy hcc.2 hl]⟩ ?_ (by simp only []; omega)
       refine weakXF (@cells_mk) ?_
       exact ⟨cI (by omega), cI (by omega)⟩
   · have hcc : ¬ (i < ks.length ∧ b ≤ 2500) := by
      simp at hc
      omega
     clear hc
     obtain rfl : V = some b := hbk.symm.trans (bkeys5_end hcc)
     simp only [] at hbl ⊢
     obtain ⟨V, hV2⟩ : ∃ V, V = bitems5 d b xs := ⟨_, rfl⟩
     rw [← hV2] at hbl ⊢
     refine walkG ?_
     refine VC.loop (ι := {p : Nat × Nat // p.1 ≤ xs.length ∧ p.2 ≤ 5001 + 2501 * (61 - d) ∧ bitems5 d p.2 (xs.drop p.1) = V}) (fun p => [(1, .c (.v (.int .i64 2500))), (2, .c (.v (.int .i64 z))), (3, .ref 0 1 0 0), (7, .c (.v (.int .i64 p.1.2))), (9, .c (.v (.int .i64 p.1.1)))])
      (fun _ => [(0, ⟨false, 36, 5, [(JT.mk k n s ks xs).cells.map .c]⟩)]) 8 (fun p => xs.length - p.1.1) ⟨(0, b), Nat.zero_le _, by simp only []; omega, by simpa using hV2.symm⟩ ?_ ?_
     · simp only [cells_mk, Weak, eq_self, used_is, sc_any, sc_c, sc_pp, sc_ref, sc_row, sc_agg, sc_fn, ScL, some_imp, List.forall_mem_map, go_sem, Int.reduceBEq, Int.reduceLE, Int.reduceLT, Int.reduceNeg, Nat.reduceAdd, Nat.reduceEqDiff, Nat.reduceLT, Nat.reduceLeDiff, Nat.reduceMul, Nat.reduceSub, reduceCtorEq, ↓reduceIte]
       all_goals rfl
     clear hi hcc hbk
     rintro ⟨⟨i, c⟩, hi, hcb, hbt⟩
     simp only [] at hi hcb hbt ⊢
     refine walkGF (@cells_mk) ?_
     refine VC.cond (by rfl) (by trivial) (fun hc => ?_) (fun hc => ?_)
     · have hcc : i < xs.length ∧ c ≤ 2500 := by
        simp at hc
        omega
       clear hc
       obtain ⟨x, hx⟩ : ∃ x, xs[i]? = some x := ⟨xs[i], List.getElem?_eq_getElem hcc.1⟩
       have hxm := List.mem_of_getElem? hx
       have hsz : SizeOf.sizeOf x ≤ m := by
        have h1 := List.sizeOf_lt_of_mem hxm
        simp at ht
        omega
       have hcall := ih x hsz (d + 1) (z + 1) (by omega) (by omega)
       have hxb := tbulk5_le (d + 1) x
       have hw1 : IntKind.i64.wrap (z + 1) = z + 1 := wrap64_id (by omega) (by omega)
       have hw2 : IntKind.i64.wrap ((c : Int) + (tbulk5 (d + 1) x : Int)) = (c : Int) + (tbulk5 (d + 1) x : Int) := wrap64_id (by omega) (by omega)
       have hw4 : IntKind.i64.wrap ((i : Int) + 1) = (i : Int) + 1 := wrap64_id (by omega) (by omega)
       (repeat (first | refine pass ?_ | refine VC.region (by rfl) (by rfl) ?_ | (refine AO.step fun K hK => ?_; simp only [cells_mk, List.getElem?_map, hx, len_cells, take_cells, take_cellsC, hw1, go_sem, Int.reduceBEq, Int.reduceLE, Int.reduceLT, Int.reduceNeg, Nat.reduceAdd, Nat.reduceEqDiff, Nat.reduceLT, Nat.reduceLeDiff, Nat.reduceMul, Nat.reduceSub, reduceCtorEq, ↓reduceIte]; (first | refine gsel_skip ?_ | refine gsel_go ?_ | skip); (first | refine hK _ _ _ ?_ | refine ⟨by first | omega | exact ⟨_, rfl, rfl⟩ | exact fun _ => ⟨_, rfl, rfl⟩ | (intro h; simp only [cells_mk, List.getElem?_map, hx, len_cells, take_cells, take_cellsC, hw1, h, true_and]; omega) | (clear hK; intro h; simp_all <;> omega), hK _ _ _ ?_⟩); clear hK K) | refine VC.draw mixP (by rfl) (by rfl) ?_ | refine ⟨okd_of (by kernel_rfl), ?_⟩ | refine BQ.other (by decide) ?_ | refine VC.seq ?_ | refine AO.nil ?_ | refine VC.block ?_))
       (refine AO.step fun K hK => ?_; simp only [go_sem, Int.reduceBEq, Int.reduceLE, Int.reduceLT, Int.reduceNeg, Nat.reduceAdd, Nat.reduceEqDiff, Nat.reduceLT, Nat.reduceLeDiff, Nat.reduceMul, Nat.reduceSub, reduceCtorEq, ↓reduceIte, pureL_c]; (first | refine gsel_go ?_ | skip))
       refine .inl ⟨_, hcall, hK _ _ _ ?_⟩
       clear hK K
       refine walkGF (And.intro hw2 hw4) ?_
       refine .next ⟨(i + 1, c + tbulk5 (d + 1) x), by simp only []; omega, by simp only []; omega, by simp only []; rw [← hbt, bitems5_step hx hcc.2]⟩ ?_ (by simp only []; omega)
       refine weakXF (@cells_mk) ?_
       exact ⟨cI (by omega), cI (by omega)⟩
     · have hcc : ¬ (i < xs.length ∧ c ≤ 2500) := by
        simp at hc
        omega
       obtain rfl : V = c := hbt.symm.trans (bitems5_end hcc)
       refine walkG ?_
       refine ⟨.inr rfl, ?_⟩
       rw [Tryz.results66]
       simp only [resOk, resV, go_sem, simprocAttr]
       exact .c _
/-! A tree that is not great is small. -/
theorem bkeys5_len : ∀ (ys : List (List UInt8)) (n m : Nat), bkeys5 n ys = some m → m ≤ 2500 → n + ys.length ≤ m ∧ ∀ y ∈ ys, y.length ≤ 2500
 | [], n, m, h, hm => by rw [bkeys5] at h; obtain rfl := Option.some.inj h; exact ⟨by simp, by simp⟩
 | y :: ys, n, m, h, hm => by
   rw [bkeys5] at h
   split at h
   · split at h
     · simp at h
     · obtain ⟨h1, h2⟩ := bkeys5_len ys _ m h hm
       refine ⟨by simp; omega, fun z hz => ?_⟩
       rcases List.mem_cons.1 hz with rfl | hz
       · omega
       · exact h2 z hz
   · obtain rfl := Option.some.inj h
     omega
mutual
theorem bulk_sm5 (d : Nat) : ∀ t : JT, tbulk5 d t ≤ 2500 → t.sm 2500
 | .mk k n s ks xs => fun h => by
   rw [tbulk5] at h
   split at h
   · omega
   · rename_i h1
     split at h
     · omega
     · rename_i m hm
       have h2 := bitems5_ge d xs m
       obtain ⟨_, h3⟩ := bkeys5_len ks _ m hm (by omega)
       exact ⟨by omega, by omega, h3, by omega, bitems5_sm d m xs h⟩
theorem bitems5_sm (d n : Nat) : ∀ xs : List JT, bitems5 d n xs ≤ 2500 → JT.smL 2500 xs
 | [] => fun _ => trivial
 | x :: xs => fun h => by
   rw [bitems5] at h
   split at h
   · have := bitems5_ge d xs (n + tbulk5 (d + 1) x)
     exact ⟨bulk_sm5 (d + 1) x (by omega), bitems5_sm d _ xs h⟩
   · omega
end

def textsL : Nat → List (List UInt8) → Nat
 | n, [] => n
 | n, y :: ys => if n ≤ 2500 then (if 2500 < y.length then 2501 else textsL (n + y.length) ys) else n
def textsB (l : List (List UInt8)) : Nat := if 2500 < l.length then 2501 else textsL l.length l
def fieldsB : Nat → List FT → Option Nat
 | n, [] => some n
 | n, f :: fs => if n ≤ 2500 then (if 2500 < f.name.length then none else fieldsB (n + f.name.length + textsB f.aliases + tbulk5 0 f.dflt) fs) else some n
def nodesB : Nat → List NT → Nat
 | n, [] => n
 | n, x :: xs => if n ≤ 2500 then (if 2500 < x.name.length ∨ 2500 < x.fields.length ∨ 2500 < x.branches.length ∨ 2500 < x.dflt.length then 2501 else
   match fieldsB (n + x.name.length + x.fields.length + x.branches.length + x.dflt.length + textsB x.aliases + textsB x.symbols) x.fields with | none => 2501 | some m => nodesB m xs) else n
def sbulk (s : ST) : Nat := if 2500 < s.nodes.length then 2501 else nodesB s.nodes.length s.nodes
def FT.sm (N : Nat) (f : FT) : Prop := f.name.length ≤ N ∧ f.aliases.length ≤ N ∧ (∀ y ∈ f.aliases, y.length ≤ N) ∧ f.dflt.sm N
def NT.sm (N : Nat) (n : NT) : Prop := n.name.length ≤ N ∧ n.dflt.length ≤ N ∧ (n.aliases.length ≤ N ∧ ∀ y ∈ n.aliases, y.length ≤ N) ∧ (n.symbols.length ≤ N ∧ ∀ y ∈ n.symbols, y.length ≤ N) ∧ n.branches.length ≤ N ∧ (n.fields.length ≤ N ∧ ∀ f ∈ n.fields, f.sm N)
def ST.sm (N : Nat) (s : ST) : Prop := s.nodes.length ≤ N ∧ ∀ n ∈ s.nodes, n.sm N
theorem textsL_le : ∀ (l : List (List UInt8)) (n : Nat), n ≤ 5000 → textsL n l ≤ 5000
 | [], n, h => h
 | y :: ys, n, h => by
   rw [textsL]
   split
   · split
     · omega
     · exact textsL_le ys _ (by omega)
   · exact h
theorem textsL_ge : ∀ (l : List (List UInt8)) (n : Nat), n ≤ 2500 ∨ True → textsL n l ≤ 2500 → n ≤ textsL n l ∧ ∀ y ∈ l, y.length ≤ 2500
 | [], n, _, _ => ⟨Nat.le_refl _, by simp⟩
 | y :: ys, n, _, h => by
   rw [textsL] at h ⊢
   split at h
   · rename_i h1
     rw [if_pos h1]
     split at h
     · omega
     · rename_i h2
       rw [if_neg h2]
       obtain ⟨h3, h4⟩ := textsL_ge ys _ (.inr trivial) h
       refine ⟨by omega, fun z hz => ?_⟩
       rcases List.mem_cons.1 hz with rfl | hz
       · omega
       · exact h4 z hz
   · omega
theorem textsB_le (l : List (List UInt8)) : textsB l ≤ 5000 := by
 unfold textsB
 split
 · omega
 · exact textsL_le l _ (by omega)
theorem textsB_sm {l : List (List UInt8)} (h : textsB l ≤ 2500) : l.length ≤ 2500 ∧ ∀ y ∈ l, y.length ≤ 2500 := by
 unfold textsB at h
 split at h
 · omega
 · rename_i h1
   exact ⟨by omega, (textsL_ge l _ (.inr trivial) h).2⟩
theorem tbulk5_top (t : JT) : tbulk5 0 t ≤ 200000 := by
 have := tbulk5_le 0 t
 omega
theorem fieldsB_le : ∀ (l : List FT) (n m : Nat), n ≤ 300000 → fieldsB n l = some m → m ≤ 300000
 | [], n, m, h, e => by rw [fieldsB] at e; obtain rfl := Option.some.inj e; exact h
 | f :: fs, n, m, h, e => by
   rw [fieldsB] at e
   have h1 := textsB_le f.aliases
   have h2 := tbulk5_top f.dflt
   split at e
   · split at e
     · simp at e
     · exact fieldsB_le fs _ m (by omega) e
   · obtain rfl := Option.some.inj e; exact h
theorem fieldsB_sm : ∀ (l : List FT) (n m : Nat), fieldsB n l = some m → m ≤ 2500 → n ≤ m ∧ ∀ f ∈ l, f.sm 2500
 | [], n, m, e, h => by rw [fieldsB] at e; obtain rfl := Option.some.inj e; exact ⟨Nat.le_refl _, by simp⟩
 | f :: fs, n, m, e, h => by
   rw [fieldsB] at e
   split at e
   · split at e
     · simp at e
     · rename_i h1 h2
       obtain ⟨h3, h4⟩ := fieldsB_sm fs _ m e h
       refine ⟨by omega, fun g hg => ?_⟩
       rcases List.mem_cons.1 hg with rfl | hg
       · obtain ⟨h5, h6⟩ := textsB_sm (l := g.aliases) (by omega)
         exact ⟨by omega, h5, h6, bulk_sm5 0 _ (by omega)⟩
       · exact h4 g hg
   · obtain rfl := Option.some.inj e
     omega
theorem nodesB_sm : ∀ (l : List NT) (n : Nat), nodesB n l ≤ 2500 → n ≤ nodesB n l ∧ ∀ x ∈ l, x.sm 2500
 | [], n, h => ⟨Nat.le_refl _, by simp⟩
 | x :: xs, n, h => by
   rw [nodesB] at h ⊢
   split at h
   · rename_i h1
     rw [if_pos h1]
     split at h
     · omega
     · rename_i h2
       rw [if_neg h2]
       split at h
       · omega
       · rename_i m hm
         obtain ⟨h3, h4⟩ := nodesB_sm xs m h
         obtain ⟨h5, h6⟩ := fieldsB_sm _ _ m hm (by omega)
         refine ⟨by omega, fun y hy => ?_⟩
         rcases List.mem_cons.1 hy with rfl | hy
         · exact ⟨by omega, by omega, textsB_sm (by omega), textsB_sm (by omega), by omega, by omega, h6⟩
         · exact h4 y hy
   · omega
theorem sbulk_sm {s : ST} (h : sbulk s ≤ 2500) : s.sm 2500 := by
 unfold sbulk at h
 split at h
 · omega
 · exact ⟨by omega, (nodesB_sm _ _ h).2⟩

theorem tyFn : tyA Tryz.prog 115 = some ⟨false, 1, 8, [.nilFunc], 0, [], 0, []⟩ := by kernel_rfl
theorem all1_told {g : FuncId} {x : List UInt8} {b : Bool} (h : Told Tryz.prog g [.c (.v (.string (str x)))] (.c (.v (.bool b)))) : Told Tryz.prog 181 [.c (.v (.string (str x))), .pp [fnP g]] (.c (.v (.bool (!b)))) := by
 unfold fnP
 refine VC.toldP ent_181 Tryz.func181 rfl Tryz.ntmps181 fun hb => ?_
 clear hb
 refine walkGF (@tyFn) ?_
 (refine AO.step fun K hK => ?_; simp only [go_sem, Int.reduceBEq, Int.reduceLE, Int.reduceLT, Int.reduceNeg, Nat.reduceAdd, Nat.reduceEqDiff, Nat.reduceLT, Nat.reduceLeDiff, Nat.reduceMul, Nat.reduceSub, reduceCtorEq, ↓reduceIte, tyFn]; (first | refine gsel_go ?_ | skip))
 refine ⟨_, h, hK _ _ _ ?_⟩
 clear hK K
 refine walkG ?_
 refine retX Tryz.results181 ?_
 exact .c _
theorem all_told {g : FuncId} {rule : List UInt8 → Bool} (l : List (List UInt8)) (hk : ∀ x ∈ l, Told Tryz.prog g [.c (.v (.string (str x)))] (.c (.v (.bool (rule x))))) :
  Told Tryz.prog 131 [.c (.sl 1 (l.map sPV)), .fn (.func g) [] []] (.c (.v (.bool (allM rule l)))) := by
 obtain ⟨V, hV⟩ : ∃ V, V = allM rule l := ⟨_, rfl⟩
 rw [← hV]
 have hF := cnfS_told (g := 181) (fs := []) (cs := [.pp [fnP g]]) rfl rfl l (fun x => !rule x) fun x hx => all1_told (hk x hx)
 have hv : V = (decide ((l.length : Int) ≤ 40) && !(l.any fun x => !rule x)) := by
  rw [hV, allM]
  congr 1
  · simp
    omega
  · rw [Bool.eq_iff_iff]
    simp
 clear hV
 replace hv := Lib.hid hv
 refine VC.toldP ent_131 Tryz.func131 rfl Tryz.ntmps131 fun hb => ?_
 clear hb
 refine VC.frz [] [(0, .c (.sl 1 (l.map sPV))), (1, .c (fnP g))] [] 0 ?_ ?_
 · simp only [WeakF, used_is, sc_any, sc_c, sc_pp, sc_ref, sc_row, sc_agg, sc_fn, ScL, some_imp, List.forall_mem_map, go_sem, Int.reduceBEq, Int.reduceLE, Int.reduceLT, Int.reduceNeg, Nat.reduceAdd, Nat.reduceEqDiff, Nat.reduceLT, Nat.reduceLeDiff, Nat.reduceMul, Nat.reduceSub, reduceCtorEq, ↓reduceIte]
   exact ⟨.same _, .fnV⟩
 (refine VC.seq ?_; (first | refine VC.region (by rfl) (by rfl) ?_ | refine VC.draw mixP (by rfl) (by rfl) ?_); (repeat (refine AO.step fun K hK => ?_; simp only [go_sem, Int.reduceBEq, Int.reduceLE, Int.reduceLT, Int.reduceNeg, Nat.reduceAdd, Nat.reduceEqDiff, Nat.reduceLT, Nat.reduceLeDiff, Nat.reduceMul, Nat.reduceSub, reduceCtorEq, ↓reduceIte]; (first | refine gsel_skip ?_ | refine gsel_go ?_ | skip); (first | refine hK _ _ _ ?_ | refine ⟨by first | omega | exact ⟨_, rfl, rfl⟩ | exact fun _ => ⟨_, rfl, rfl⟩ | (intro h; simp only [h, true_and]; omega) | (clear hK; intro h; simp_all <;> omega), hK _ _ _ ?_⟩); clear hK K)); refine AO.nil ?_; first | refine SQ.normal ?_ | refine ⟨okd_of (by kernel_rfl), SQ.normal ?_⟩)
 refine VC.frz [0] [(0, .c (.sl 1 (l.map sPV))), (3, .pp [fnP g])] [] 400 ?_ ?_
 · simp only [WeakF, used_is, sc_any, sc_c, sc_pp, sc_ref, sc_row, sc_agg, sc_fn, ScL, some_imp, List.forall_mem_map, go_sem, Int.reduceBEq, Int.reduceLE, Int.reduceLT, Int.reduceNeg, Nat.reduceAdd, Nat.reduceEqDiff, Nat.reduceLT, Nat.reduceLeDiff, Nat.reduceMul, Nat.reduceSub, reduceCtorEq, ↓reduceIte]
   exact ⟨.same _, .ref (es := [fnP g]) (by simp) rfl rfl rfl rfl⟩
 refine walkG ?_
 refine walkD (hF) ?_
 refine walkG ?_
 refine retX Tryz.results131 ?_
 rw [hv.out]
 exact .c _
theorem kids_told (n : NT) (hn : n.sm 1000000) : Told Tryz.prog 36 [n.av] (.c (.sl 1 ((kidsN n).map iPV))) := by
 obtain ⟨L, hL⟩ : ∃ L, L = kidsN n := ⟨_, rfl⟩
 rw [← hL]
 unfold kidsN at hL
 have hfl := hn.2.2.2.2.2.1
 have hbl := hn.2.2.2.2.1
 rw [NT.av_eq, ncells_mk]
 refine VC.toldP ent_36 Tryz.func36 rfl Tryz.ntmps36 fun hb => ?_
 clear hb
 by_cases h9 : n.kind = 9
 · rw [if_pos h9] at hL
   subst hL
   rw [h9]
   refine walkB ?_
   refine VC.nil 3 3 1 (by rfl) (by trivial) (by rfl) ?_
   refine VC.loop (ι := {i : Nat // i ≤ n.fields.length}) (fun q => [(3, .row 88 q.1), (11, .c (.sl 9 (n.fields.map FT.cells))), (12, .c (.v (.int .i64 (n.fields.length : Int)))), (13, .c (.v (.int .i64 (q.1 : Int))))])
    (fun q => [(88, ⟨true, 3, 1, rA iPV ((n.fields.map (·.type)).take q.1)⟩)]) 800 (fun q => n.fields.length - q.1) ⟨0, Nat.zero_le _⟩ ?_ ?_
   · simp only [rA_len, rA_sc, rA_nil, Weak, eq_self, used_is, sc_any, sc_c, sc_pp, sc_ref, sc_row, sc_agg, sc_fn, ScL, some_imp, List.forall_mem_map, go_sem, Int.reduceBEq, Int.reduceLE, Int.reduceLT, Int.reduceNeg, Nat.reduceAdd, Nat.reduceEqDiff, Nat.reduceLT, Nat.reduceLeDiff, Nat.reduceMul, Nat.reduceSub, reduceCtorEq, ↓reduceIte]
     try simp
   rintro ⟨i, hi⟩
   simp only []
   refine walkG ?_
   refine VC.cond (by rfl) (by trivial) (fun hc => ?_) (fun hc => ?_)
   · have hlt : i < n.fields.length := by simp at hc; omega
     obtain ⟨f, hx⟩ : ∃ f, n.fields[i]? = some f := ⟨n.fields[i], List.getElem?_eq_getElem hlt⟩
     have hw : IntKind.i64.wrap ((i : Int) + 1) = (i : Int) + 1 := wrap64_id (by omega) (by omega)
     have hxp : (n.fields.map FT.cells)[i]? = some f.cells := by rw [List.getElem?_map, hx]; rfl
     have hl : (rA iPV ((n.fields.map (·.type)).take i)).length = i := by rw [rA_len]; simp; omega
     have hr : rA iPV ((n.fields.map (·.type)).take i) ++ [[.c (.v (.int .i64 f.type))]] = rA iPV ((n.fields.map (·.type)).take (i + 1)) := by
      rw [List.take_add_one, List.getElem?_map, hx]
      exact rA_one iPV _ f.type
     have hl2 : (rA iPV ((n.fields.map (·.type)).take (i + 1))).length = i + 1 := by rw [rA_len]; simp; omega
     refine walkGF (And.intro hxp (And.intro @fcells_mk (And.intro @len_cells (And.intro @take_cells (And.intro @take_cellsC (And.intro hl (And.intro hr hw))))))) ?_
     refine .next ⟨i + 1, by omega⟩ ?_ (by simp only []; omega)
     refine weakXF (And.intro hl2 @rA_sc) ?_
     exact ⟨cI (by omega), Nat.le_refl _⟩
   · have hie : i = n.fields.length := by simp at hc; omega
     have htk : (n.fields.map (·.type)).take i = n.fields.map (·.type) := List.take_of_length_le (by simp; omega)
     rw [htk]
     refine walkGF (hie) ?_
     refine retX Tryz.results36 ?_
     apply frz_rA (f := iPV) (l := n.fields.map (·.type)) (T := 3)
     · rfl
     · simp [hie]
     · rfl
     · simp [iPV]
 by_cases h11 : n.kind = 11
 · rw [if_neg h9, if_pos (.inl h11)] at hL
   subst hL
   rw [h11]
   refine walkB ?_
   refine retX Tryz.results36 ?_
   exact frz_rA (f := iPV) (l := [n.items]) rfl rfl rfl (by simp [iPV])
 by_cases h12 : n.kind = 12
 · rw [if_neg h9, if_pos (.inr h12)] at hL
   subst hL
   rw [h12]
   refine walkB ?_
   refine retX Tryz.results36 ?_
   exact frz_rA (f := iPV) (l := [n.items]) rfl rfl rfl (by simp [iPV])
 by_cases h13 : n.kind = 13
 · rw [if_neg h9, if_neg (by simp [h11, h12]), if_pos h13] at hL
   subst hL
   rw [h13]
   refine walkB ?_
   refine retX Tryz.results36 ?_
   refine frz_rA (f := iPV) (l := n.branches) (T := 3) ?_ ?_ rfl (by simp [iPV])
   · simp [upd_at, rA_pv]
   · simp
 · rw [if_neg h9, if_neg (by simp [h11, h12]), if_neg h13] at hL
   subst hL
   have e9 : (n.kind == 9) = false := by simpa using h9
   have e11 : (n.kind == 11) = false := by simpa using h11
   have e12 : (n.kind == 12) = false := by simpa using h12
   have e13 : (n.kind == 13) = false := by simpa using h13
   refine walkBF (And.intro e9 (And.intro e11 (And.intro e12 e13))) ?_
   refine retX Tryz.results36 ?_
   exact .nil _

def KnOk (kn : List Int) : Prop := ∀ x ∈ kn, -1 ≤ x ∧ x ≤ 1001
theorem KnOk.set {kn : List Int} (h : KnOk kn) (p : Nat) {v : Int} (hv : -1 ≤ v ∧ v ≤ 1001) : KnOk (kn.set p v) := fun x hx => by
 rcases List.mem_or_eq_of_mem_set hx with h1 | rfl
 · exact h x h1
 · exact hv
theorem count_set_le {kn : List Int} (p : Nat) {v : Int} (hv : v ≠ 0) : (kn.set p v).count 0 ≤ kn.count 0 := by
 by_cases hp : p < kn.length
 · rw [List.count_set hp]
   have : (v == 0) = false := by simpa using hv
   simp [this]
 · rw [List.set_eq_of_length_le (by omega)]
   exact Nat.le_refl _
theorem count_set_lt {kn : List Int} {p : Nat} {v : Int} (hp : kn[p]? = some 0) (hv : v ≠ 0) : (kn.set p v).count 0 < kn.count 0 := by
 obtain ⟨hlt, h0⟩ := List.getElem?_eq_some_iff.1 hp
 rw [List.count_set hlt]
 have : (v == 0) = false := by simpa using hv
 have hpos : 0 < kn.count 0 := List.count_pos_iff.2 (h0 ▸ List.getElem_mem hlt)
 simp [this, h0]
 omega
theorem weighK_ok (f : Nat → List Int → Int × List Int) (N : Nat) (hf : ∀ q kn, kn.length = N → KnOk kn → (f q kn).2.length = N ∧ KnOk (f q kn).2 ∧ (f q kn).2.count 0 ≤ kn.count 0 ∧ 1 ≤ (f q kn).1 ∧ (f q kn).1 ≤ 1001) :
  ∀ (xs : List FT) (n : Int) (kn : List Int), kn.length = N → KnOk kn → 1 ≤ n → n ≤ 1001 → (weighK f xs n kn).2.length = N ∧ KnOk (weighK f xs n kn).2 ∧ (weighK f xs n kn).2.count 0 ≤ kn.count 0 ∧ 1 ≤ (weighK f xs n kn).1 ∧ (weighK f xs n kn).1 ≤ 1001
 | [], n, kn, h1, h2, h3, h4 => ⟨h1, h2, Nat.le_refl _, h3, h4⟩
 | x :: xs, n, kn, h1, h2, h3, h4 => by
   rw [weighK]
   obtain ⟨a1, a2, a3, a4, a5⟩ := hf x.type.toNat kn h1 h2
   obtain ⟨b1, b2, b3, b4, b5⟩ := weighK_ok f N hf xs (min (n + (f x.type.toNat kn).1) 1001) (f x.type.toNat kn).2 a1 a2 (by omega) (by omega)
   exact ⟨b1, b2, by omega, b4, b5⟩
theorem knAt_of {kn : List Int} {p : Nat} {v : Int} (h : kn[p]? = some v) : knAt kn p = v := by rw [knAt, h]
theorem weighM_ok (ns : List NT) : ∀ (d q : Nat) (kn : List Int), kn.length = ns.length → KnOk kn → (weighM ns d q kn).2.length = ns.length ∧ KnOk (weighM ns d q kn).2 ∧ (weighM ns d q kn).2.count 0 ≤ kn.count 0 ∧ 1 ≤ (weighM ns d q kn).1 ∧ (weighM ns d q kn).1 ≤ 1001
 | 0, q, kn, h1, h2 => ⟨h1, h2, Nat.le_refl _, (by decide : (1 : Int) ≤ 1001), (by decide : (1001 : Int) ≤ 1001)⟩
 | d + 1, q, kn, h1, h2 => by
   rw [weighM]
   split
   · exact ⟨h1, h2, Nat.le_refl _, (by decide : (1 : Int) ≤ 1001), (by decide : (1001 : Int) ≤ 1001)⟩
   · split
     · rename_i h3 h4
       refine ⟨h1, h2, Nat.le_refl _, by omega, ?_⟩
       unfold knAt
       split
       · rename_i v hv
         exact (h2 v (List.mem_of_getElem? hv)).2
       · exact (by decide : (0 : Int) ≤ 1001)
     · obtain ⟨b1, b2, b3, b4, b5⟩ := weighK_ok (weighM ns d) ns.length (weighM_ok ns d) (fieldsAt ns q) 1 (kn.set q (-1)) (by rw [List.length_set]; exact h1) (h2.set q (by decide)) (by decide) (by decide)
       have c1 := count_set_le (kn := kn) q (v := -1) (by decide)
       have c2 := count_set_le (kn := (weighK (weighM ns d) (fieldsAt ns q) 1 (kn.set q (-1))).2) q (v := (weighK (weighM ns d) (fieldsAt ns q) 1 (kn.set q (-1))).1) (by omega)
       exact ⟨by rw [List.length_set]; exact b1, b2.set q (by omega), by simp only []; omega, b4, b5⟩
theorem weight_told (s : ST) (hl : s.nodes.length ≤ 1000000) (hs : ∀ n ∈ s.nodes, n.sm 1000000) (hr : ∀ n ∈ s.nodes, n.kind = 9 → ∀ f ∈ n.fields, 0 ≤ f.type ∧ f.type < (s.nodes.length : Int)) : ∀ (d p : Nat) (kn : List Int), p < s.nodes.length → kn.length = s.nodes.length → KnOk kn → kn.count 0 < d →
  ToldM Tryz.prog 69 [s.av, .c (.v (.int .i64 (p : Int))), .row 1000000 s.nodes.length] [⟨true, 3, 1, rA iPV kn⟩] [some ⟨true, 3, 1, rA iPV (weighM s.nodes d p kn).2⟩] (.c (.v (.int .i64 (weighM s.nodes d p kn).1))) := by
 intro d
 induction d with
 | zero => intro p kn _ _ _ h; omega
 | succ d ih =>
 intro p kn hp hk hko hc
 obtain ⟨R, hR⟩ : ∃ R, R = weighM s.nodes (d + 1) p kn := ⟨_, rfl⟩
 rw [← hR]
 rw [weighM] at hR
 obtain ⟨v, hv⟩ : ∃ v, kn[p]? = some v := ⟨kn[p]'(by omega), List.getElem?_eq_getElem (by omega)⟩
 rw [knAt_of hv] at hR
 have hvp : (rA iPV kn)[p]? = some [.c (.v (.int .i64 v))] := rA_at hv
 have hkl : (rA iPV kn).length = s.nodes.length := by rw [rA_len, hk]
 obtain ⟨N, hN⟩ : ∃ N, N = s.nodes.length := ⟨_, rfl⟩
 rw [ST.av_eq, scells_mk]
 by_cases hv0 : v < 0
 · rw [if_pos hv0] at hR
   subst hR
   have e0 : decide (v < 0) = true := by simpa using hv0
   refine VC.toldXF (And.intro @rA_len (And.intro @rA_sc hk)) ent_69 [] Tryz.func69 rfl Tryz.ntmps69 fun hb hbL => ?_
   clear hb hbL
   refine walkBF (And.intro hvp (And.intro hkl e0)) ?_
   refine retXF (@rA_ren) Tryz.results69 ?_
   exact .c _
 have e0 : decide (v < 0) = false := by simpa using hv0
 rw [if_neg hv0] at hR
 by_cases hv1 : 0 < v
 · rw [if_pos hv1] at hR
   subst hR
   have e1 : decide (v > 0) = true := by simpa using hv1
   refine VC.toldXF (And.intro @rA_len (And.intro @rA_sc hk)) ent_69 [] Tryz.func69 rfl Tryz.ntmps69 fun hb hbL => ?_
   clear hb hbL
   refine walkBF (And.intro hvp (And.intro hkl (And.intro e0 e1))) ?_
   refine retXF (@rA_ren) Tryz.results69 ?_
   exact .c _
 have e1 : decide (v > 0) = false := by simpa using hv1
 rw [if_neg hv1] at hR
 obtain rfl : v = 0 := by omega
 obtain ⟨n, hn⟩ : ∃ n, s.nodes[p]? = some n := ⟨s.nodes[p], List.getElem?_eq_getElem hp⟩
 have hnp : (s.nodes.map NT.cells)[p]? = some n.cells := by rw [List.getElem?_map, hn]; rfl
 have hns := hs n (List.mem_of_getElem? hn)
 have hfl := hns.2.2.2.2.2.1
 have hset : (rA iPV kn).set p [.c (.v (.int .i64 (-1)))] = rA iPV (kn.set p (-1)) := rA_set kn p (-1)
 have hfa : fieldsAt s.nodes p = if n.kind = 9 then n.fields else [] := by rw [fieldsAt, hn]
 obtain ⟨K0, hK0⟩ : ∃ K, K = weighK (weighM s.nodes d) (fieldsAt s.nodes p) 1 (kn.set p (-1)) := ⟨_, rfl⟩
 rw [← hK0] at hR
 subst hR
 have hct := count_set_lt (v := -1) hv (by decide)
 refine VC.toldXF (And.intro @rA_len (And.intro @rA_sc hk)) ent_69 [] Tryz.func69 rfl Tryz.ntmps69 fun hb hbL => ?_
 clear hb hbL
 refine walkBF (And.intro hvp (And.intro hkl (And.intro e0 (And.intro e1 (And.intro hset (And.intro hnp @ncells_mk)))))) ?_
 refine VC.loop (ι := {x : Nat × (Int × List Int) // x.1 ≤ n.fields.length ∧ x.2.2.length = s.nodes.length ∧ KnOk x.2.2 ∧ x.2.2.count 0 < kn.count 0 ∧ 1 ≤ x.2.1 ∧ x.2.1 ≤ 1001 ∧ (if n.kind = 9 then weighK (weighM s.nodes d) (n.fields.drop x.1) x.2.1 x.2.2 else (x.2.1, x.2.2)) = K0})
  (fun q => [(1, .c (.v (.int .i64 (p : Int)))), (2, .row 1000000 s.nodes.length), (3, .ref 0 1 0 0), (7, .c (.v (.int .i64 q.1.2.1))), (34, .c (.sl 9 (n.fields.map FT.cells))), (35, .c (.v (.int .i64 (n.fields.length : Int)))), (36, .c (.v (.int .i64 (q.1.1 : Int))))])
  (fun q => [(0, ⟨false, 24, 2, [[.c (.sl 10 (s.nodes.map NT.cells)), .c (.v (.int .i64 s.root))]]⟩), (1000000, ⟨true, 3, 1, rA iPV q.1.2.2⟩)]) 800 (fun q => n.fields.length - q.1.1)
  ⟨(0, (1, kn.set p (-1))), Nat.zero_le _, by simp only []; rw [List.length_set]; exact hk, hko.set p (by decide), hct, by simp only []; omega, by simp only []; omega, by
    rw [hK0, hfa]
    split
    · rw [List.drop_zero]
    · rfl⟩ ?_ ?_
 · simp only [rA_len, rA_sc, hk, List.length_set, Weak, eq_self, used_is, sc_any, sc_c, sc_pp, sc_ref, sc_row, sc_agg, sc_fn, ScL, some_imp, List.forall_mem_map, go_sem, Int.reduceBEq, Int.reduceLE, Int.reduceLT, Int.reduceNeg, Nat.reduceAdd, Nat.reduceEqDiff, Nat.reduceLT, Nat.reduceLeDiff, Nat.reduceMul, Nat.reduceSub, reduceCtorEq, ↓reduceIte]
   try simp
 clear hK0 hct hv hvp hset
 rintro ⟨⟨i, m, kn'⟩, hi, hk', hko', hc', hm1, hm2, hK⟩
 simp only [] at hi hk' hko' hc' hm1 hm2 hK ⊢
 have hkl' : (rA iPV kn').length = s.nodes.length := by rw [rA_len, hk']
 refine walkG ?_
 refine VC.cond (by rfl) (by trivial) (fun hc2 => ?_) (fun hc2 => ?_)
 · have hil : i < n.fields.length := by simp at hc2; omega
   obtain ⟨f, hx⟩ : ∃ f, n.fields[i]? = some f := ⟨n.fields[i], List.getElem?_eq_getElem hil⟩
   have hxp : (n.fields.map FT.cells)[i]? = some f.cells := by rw [List.getElem?_map, hx]; rfl
   have hw : IntKind.i64.wrap ((i : Int) + 1) = (i : Int) + 1 := wrap64_id (by omega) (by omega)
   by_cases h9 : n.kind = 9
   · have e9 : (n.kind == 9) = true := by simpa using h9
     obtain ⟨h0, h1⟩ := hr n (List.mem_of_getElem? hn) h9 f (List.mem_of_getElem? hx)
     obtain ⟨q, hq⟩ : ∃ q : Nat, f.type = (q : Int) := ⟨f.type.toNat, by omega⟩
     have hI := ih q kn' (by omega) hk' hko' (by omega)
     obtain ⟨w1, w2, w3, w4, w5⟩ := weighM_ok s.nodes d q kn' hk' hko'
     rw [if_pos h9, (List.drop_eq_getElem_cons hil).trans (by rw [(List.getElem?_eq_some_iff.1 hx).2]), weighK, hq, Int.toNat_natCast] at hK
     obtain ⟨M, hM⟩ : ∃ M, M = weighM s.nodes d q kn' := ⟨_, rfl⟩
     rw [← hM] at hI hK w1 w2 w3 w4 w5
     clear ih hM
     have hww : IntKind.i64.wrap (m + M.1) = m + M.1 := wrap64_id (by omega) (by omega)
     have hkl2 : (rA iPV M.2).length = s.nodes.length := by rw [rA_len, w1]
     simp only [ST.av_eq, scells_mk, List.map_cons, List.map_nil] at hI
     refine walkBF (And.intro hxp (And.intro @fcells_mk (And.intro @len_cells (And.intro @take_cells (And.intro @take_cellsC (And.intro hnp (And.intro @ncells_mk (And.intro e9 (And.intro hkl' hq))))))))) ?_
     refine walkLF (And.intro hkl' (And.intro hq @rA_ren)) [1000000] (hI) ?_
     refine walkGF (And.intro hww (And.intro hw hkl2)) ?_
     refine .next ⟨(i + 1, (min (m + M.1) 1001, M.2)), by simp only []; omega, w1, w2, by simp only []; omega, by simp only []; omega, by simp only []; omega, by simp only []; rw [if_pos h9]; exact hK⟩ ?_ (by simp only []; omega)
     refine weakXF (And.intro @rA_len (And.intro @rA_sc (And.intro @rA_ren w1))) ?_
     exact ⟨cI (by omega), Nat.le_refl _⟩
   · have e9 : (n.kind == 9) = false := by simpa using h9
     rw [if_neg h9] at hK
     refine walkBF (And.intro hxp (And.intro @fcells_mk (And.intro @len_cells (And.intro @take_cells (And.intro @take_cellsC (And.intro hnp (And.intro @ncells_mk (And.intro e9 hw)))))))) ?_
     refine .next ⟨(i + 1, (m, kn')), by simp only []; omega, hk', hko', hc', hm1, hm2, by simp only []; rw [if_neg h9]; exact hK⟩ ?_ (by simp only []; omega)
     refine weakXF (And.intro @rA_len (And.intro @rA_sc hk')) ?_
     exact ⟨cI (by omega), Nat.le_refl _⟩
 · have hie : i = n.fields.length := by simp at hc2; omega
   have hf : K0 = (m, kn') := by
    rw [← hK]
    split
    · rw [hie, List.drop_length, weighK]
    · rfl
   subst hf
   have hset : (rA iPV kn').set p [.c (.v (.int .i64 m))] = rA iPV (kn'.set p m) := rA_set kn' p m
   obtain ⟨u, hu⟩ : ∃ u, kn'[p]? = some u := ⟨kn'[p]'(by omega), List.getElem?_eq_getElem (by omega)⟩
   have hup : (rA iPV kn')[p]? = some [.c (.v (.int .i64 u))] := rA_at hu
   refine walkGF (And.intro hkl' (And.intro hup hset)) ?_
   refine retXF (@rA_ren) Tryz.results69 ?_
   exact .c _

def foldW (g : Nat → Int) : List FT → Int → Int
 | [], n => n
 | x :: xs, n => foldW g xs (min (n + g x.type.toNat) 1001)
def omg (ns : List NT) : Nat → Nat → Int
 | 0, _ => 1001
 | d + 1, p => foldW (omg ns d) (fieldsAt ns p) 1
theorem foldW_mono {g h : Nat → Int} (hgh : ∀ q, g q ≤ h q) : ∀ (xs : List FT) (n m : Int), n ≤ m → foldW g xs n ≤ foldW h xs m
 | [], n, m, h => h
 | x :: xs, n, m, h => by
   rw [foldW, foldW]
   have := hgh x.type.toNat
   exact foldW_mono hgh xs _ _ (by omega)
theorem foldW_le {g : Nat → Int} : ∀ (xs : List FT) (n : Int), n ≤ 1001 → foldW g xs n ≤ 1001
 | [], n, h => h
 | x :: xs, n, h => by
   rw [foldW]
   exact foldW_le xs _ (by omega)
theorem foldW_ge {g : Nat → Int} (hg : ∀ q, 1 ≤ g q) : ∀ (xs : List FT) (n : Int), n ≤ 1001 → n ≤ foldW g xs n
 | [], n, h => Int.le_refl _
 | x :: xs, n, h => by
   rw [foldW]
   have h1 := hg x.type.toNat
   have := foldW_ge hg xs (min (n + g x.type.toNat) 1001) (by omega)
   omega
theorem foldW_top {g : Nat → Int} (hg : ∀ q, 1 ≤ g q) : ∀ (xs : List FT) (n : Int), 1 ≤ n → n ≤ 1001 → (∃ x ∈ xs, g x.type.toNat = 1001) → foldW g xs n = 1001
 | [], n, _, h, hx => by obtain ⟨x, hx, _⟩ := hx; simp at hx
 | x :: xs, n, h1, h, hx => by
   rw [foldW]
   have hgx := hg x.type.toNat
   by_cases he : g x.type.toNat = 1001
   · have hm : min (n + g x.type.toNat) 1001 = 1001 := by omega
     rw [hm]
     have a := foldW_ge hg xs 1001 (by omega)
     have b := foldW_le (g := g) xs 1001 (by omega)
     omega
   · obtain ⟨y, hy, hy2⟩ := hx
     rcases List.mem_cons.1 hy with rfl | hy
     · exact absurd hy2 he
     · exact foldW_top hg xs _ (by omega) (by omega) ⟨y, hy, hy2⟩
theorem foldW_congr {g h : Nat → Int} : ∀ (xs : List FT) (n : Int), (∀ x ∈ xs, g x.type.toNat = h x.type.toNat) → foldW g xs n = foldW h xs n
 | [], n, _ => rfl
 | x :: xs, n, e => by
   rw [foldW, foldW, e x (by simp)]
   exact foldW_congr xs _ fun y hy => e y (by simp [hy])
theorem omg_range (ns : List NT) : ∀ (d p : Nat), 1 ≤ omg ns d p ∧ omg ns d p ≤ 1001
 | 0, p => ⟨by rw [omg]; decide, by rw [omg]; decide⟩
 | d + 1, p => by
   rw [omg]
   exact ⟨foldW_ge (fun q => (omg_range ns d q).1) _ _ (by decide), foldW_le _ _ (by decide)⟩
theorem omg_dec (ns : List NT) : ∀ (d p : Nat), omg ns (d + 1) p ≤ omg ns d p
 | 0, p => by rw [omg.eq_1]; exact (omg_range ns 1 p).2
 | d + 1, p => by
   rw [omg, omg]
   exact foldW_mono (omg_dec ns d) _ _ _ (Int.le_refl _)
theorem omg_anti (ns : List NT) (d p : Nat) : ∀ e, omg ns (d + e) p ≤ omg ns d p
 | 0 => Int.le_refl _
 | e + 1 => Int.le_trans (omg_dec ns (d + e) p) (omg_anti ns d p e)
theorem omg_one (ns : List NT) (p : Nat) : ∀ (b d : Nat), omg ns d p ≤ (b : Int) → ∃ D, ∀ e, omg ns (D + e) p = omg ns D p
 | 0, d, h => by have := (omg_range ns d p).1; omega
 | b + 1, d, h => by
   by_cases hs : ∀ e, omg ns (d + e) p = omg ns d p
   · exact ⟨d, hs⟩
   · obtain ⟨e, he⟩ := Classical.not_forall.1 hs
     have := omg_anti ns d p e
     exact omg_one ns p b (d + e) (by omega)
theorem omg_all (ns : List NT) : ∀ N : Nat, ∃ D, ∀ p, p < N → ∀ e, omg ns (D + e) p = omg ns D p
 | 0 => ⟨0, fun p h => by omega⟩
 | N + 1 => by
   obtain ⟨D1, h1⟩ := omg_all ns N
   obtain ⟨D2, h2⟩ := omg_one ns N 1001 0 (by rw [omg]; decide)
   refine ⟨max D1 D2, fun p hp e => ?_⟩
   by_cases hpN : p < N
   · have a := h1 p hpN (max D1 D2 - D1 + e)
     have b := h1 p hpN (max D1 D2 - D1)
     rw [show D1 + (max D1 D2 - D1 + e) = max D1 D2 + e by omega] at a
     rw [show D1 + (max D1 D2 - D1) = max D1 D2 by omega] at b
     rw [a, b]
   · obtain rfl : p = N := by omega
     have a := h2 (max D1 D2 - D2 + e)
     have b := h2 (max D1 D2 - D2)
     rw [show D2 + (max D1 D2 - D2 + e) = max D1 D2 + e by omega] at a
     rw [show D2 + (max D1 D2 - D2) = max D1 D2 by omega] at b
     rw [a, b]
structure IsG (ns : List NT) (G : Nat → Int) : Prop where
 range : ∀ p, 1 ≤ G p ∧ G p ≤ 1001
 fix : ∀ p, p < ns.length → G p = foldW G (fieldsAt ns p) 1
 top : ∀ S : Nat → Prop, (∀ q, S q → ∃ x ∈ fieldsAt ns q, S x.type.toNat) → ∀ q, S q → G q = 1001
theorem omg_top (ns : List NT) (S : Nat → Prop) (hS : ∀ q, S q → ∃ x ∈ fieldsAt ns q, S x.type.toNat) : ∀ (d q : Nat), S q → omg ns d q = 1001
 | 0, q, _ => by rw [omg]
 | d + 1, q, h => by
   rw [omg]
   obtain ⟨x, hx, hx2⟩ := hS q h
   exact foldW_top (fun q => (omg_range ns d q).1) _ _ (by decide) (by decide) ⟨x, hx, omg_top ns S hS d _ hx2⟩
theorem exG (ns : List NT) (hr : ∀ p, ∀ x ∈ fieldsAt ns p, x.type.toNat < ns.length) : ∃ G, IsG ns G := by
 obtain ⟨D, hD⟩ := omg_all ns ns.length
 refine ⟨omg ns D, fun p => omg_range ns D p, fun p hp => ?_, fun S hS q hq => omg_top ns S hS D q hq⟩
 have h := hD p hp 1
 rw [← h, omg]
def Edge (ns : List NT) (p q : Nat) : Prop := ∃ x ∈ fieldsAt ns p, x.type.toNat = q
inductive Way (ns : List NT) : Nat → Nat → Prop
 | one {p q : Nat} (h : Edge ns p q) : Way ns p q
 | step {p q r : Nat} (h : Edge ns p q) (w : Way ns q r) : Way ns p r
theorem Way.tail {ns : List NT} {p q r : Nat} (w : Way ns p q) (h : Edge ns q r) : Way ns p r := by
 induction w with
 | one h1 => exact .step h1 (.one h)
 | step h1 _ ih => exact .step h1 (ih h)
theorem IsG.cyc {ns : List NT} {G : Nat → Int} (h : IsG ns G) {p : Nat} (hp : Way ns p p) : G p = 1001 := by
 refine h.top (fun q => Way ns q p) (fun q hq => ?_) p hp
 cases hq with
 | one h1 =>
   obtain ⟨x, hx, he⟩ := h1
   exact ⟨x, hx, by rw [he]; exact hp⟩
 | step h1 w =>
   obtain ⟨x, hx, he⟩ := h1
   exact ⟨x, hx, by rw [he]; exact w⟩
structure Memo (ns : List NT) (G : Nat → Int) (kn : List Int) (p : Nat) : Prop where
 len : kn.length = ns.length
 ok : KnOk kn
 pos : ∀ (j : Nat) (v : Int), kn[j]? = some v → 0 < v → v = G j
 neg : ∀ (j : Nat) (v : Int), kn[j]? = some v → v < 0 → Way ns j p
structure Kept (ns : List NT) (G : Nat → Int) (kn kn' : List Int) : Prop where
 len : kn'.length = ns.length
 ok : KnOk kn'
 pos : ∀ (j : Nat) (v : Int), kn'[j]? = some v → 0 < v → v = G j
 neg : ∀ (j : Nat) (v : Int), kn'[j]? = some v → v < 0 → ∃ u, kn[j]? = some u ∧ u < 0
 cnt : kn'.count 0 ≤ kn.count 0
theorem weighK_spec {ns : List NT} {G : Nat → Int} (hG : IsG ns G) (f : Nat → List Int → Int × List Int) (p : Nat) (c : Nat)
  (hf : ∀ (q : Nat) (kn : List Int), q < ns.length → Memo ns G kn q → kn.count 0 < c → (f q kn).1 = G q ∧ Kept ns G kn (f q kn).2) :
  ∀ (xs : List FT) (n : Int) (kn0 kn : List Int), (∀ x ∈ xs, x.type.toNat < ns.length ∧ Edge ns p x.type.toNat) → Kept ns G kn0 kn → (∀ (j : Nat) (v : Int), kn0[j]? = some v → v < 0 → j = p ∨ Way ns j p) → kn0.count 0 < c →
   (weighK f xs n kn).1 = foldW G xs n ∧ Kept ns G kn0 (weighK f xs n kn).2
 | [], n, kn0, kn, _, hk, _, _ => ⟨rfl, hk⟩
 | x :: xs, n, kn0, kn, hx, hk, hn, hc => by
   rw [weighK, foldW]
   obtain ⟨hxl, hxe⟩ := hx x (by simp)
   have hm : Memo ns G kn x.type.toNat := ⟨hk.len, hk.ok, hk.pos, fun j v hj hv => by
    obtain ⟨u, hu, hu0⟩ := hk.neg j v hj hv
    rcases hn j u hu hu0 with rfl | w
    · exact .one hxe
    · exact w.tail hxe⟩
   obtain ⟨h1, h2⟩ := hf x.type.toNat kn hxl hm (by have := hk.cnt; omega)
   rw [h1]
   exact weighK_spec hG f p c hf xs _ kn0 _ (fun y hy => hx y (by simp [hy])) ⟨h2.len, h2.ok, h2.pos, fun j v hj hv => by
    obtain ⟨u, hu, hu0⟩ := h2.neg j v hj hv
    exact hk.neg j u hu hu0, by have := hk.cnt; have := h2.cnt; omega⟩ hn hc
theorem set_get {kn : List Int} {p j : Nat} {v w : Int} (h : (kn.set p w)[j]? = some v) : (j = p ∧ v = w) ∨ (j ≠ p ∧ kn[j]? = some v) := by
 rw [List.getElem?_set] at h
 split at h
 · rename_i hp
   split at h
   · exact .inl ⟨hp.symm, (Option.some.inj h).symm⟩
   · simp at h
 · rename_i hp
   exact .inr ⟨fun e => hp e.symm, h⟩
theorem weighM_spec {ns : List NT} {G : Nat → Int} (hG : IsG ns G) (hr : ∀ p, ∀ x ∈ fieldsAt ns p, x.type.toNat < ns.length) : ∀ (d p : Nat) (kn : List Int), p < ns.length → Memo ns G kn p → kn.count 0 < d → (weighM ns d p kn).1 = G p ∧ Kept ns G kn (weighM ns d p kn).2
 | 0, p, kn, _, _, h => by omega
 | d + 1, p, kn, hp, hm, hc => by
   obtain ⟨v, hv⟩ : ∃ v, kn[p]? = some v := ⟨kn[p]'(by rw [hm.len]; exact hp), List.getElem?_eq_getElem _⟩
   have hself : Kept ns G kn kn := ⟨hm.len, hm.ok, hm.pos, fun j u hj hu => ⟨u, hj, hu⟩, Nat.le_refl _⟩
   rw [weighM, knAt_of hv]
   split
   · rename_i h0
     exact ⟨(hG.cyc (hm.neg p v hv h0)).symm, hself⟩
   · split
     · rename_i h0 h1
       exact ⟨hm.pos p v hv h1, hself⟩
     · rename_i h0 h1
       obtain rfl : v = 0 := by omega
       have hct := count_set_lt (v := -1) hv (by decide)
       have hk1 : Kept ns G (kn.set p (-1)) (kn.set p (-1)) := ⟨by rw [List.length_set]; exact hm.len, hm.ok.set p (by decide), fun j u hj hu => by
        rcases set_get hj with ⟨_, rfl⟩ | ⟨_, h⟩
        · omega
        · exact hm.pos j u h hu, fun j u hj hu => ⟨u, hj, hu⟩, Nat.le_refl _⟩
       obtain ⟨h2, h3⟩ := weighK_spec hG (weighM ns d) p d (fun q kn hq hmq hcq => weighM_spec hG hr d q kn hq hmq hcq) (fieldsAt ns p) 1 (kn.set p (-1)) (kn.set p (-1)) (fun x hx => ⟨hr p x hx, x, hx, rfl⟩) hk1 (fun j u hj hu => by
        rcases set_get hj with ⟨e, _⟩ | ⟨_, h⟩
        · exact .inl e
        · exact .inr (hm.neg j u h hu)) (by omega)
       simp only []
       rw [h2, ← hG.fix p hp]
       have hGp := hG.range p
       have c2 := count_set_le (kn := (weighK (weighM ns d) (fieldsAt ns p) 1 (kn.set p (-1))).2) p (v := G p) (by omega)
       refine ⟨rfl, by rw [List.length_set]; exact h3.len, h3.ok.set p (by omega), fun j u hj hu => ?_, fun j u hj hu => ?_, by have := h3.cnt; omega⟩
       · rcases set_get hj with ⟨rfl, rfl⟩ | ⟨_, h⟩
         · rfl
         · exact h3.pos j u h hu
       · rcases set_get hj with ⟨_, rfl⟩ | ⟨hne, h⟩
         · omega
         · obtain ⟨w, hw, hw0⟩ := h3.neg j u h hu
           rcases set_get hw with ⟨e, _⟩ | ⟨_, h'⟩
           · exact absurd e hne
           · exact ⟨w, h', hw0⟩
theorem memo_none {ns : List NT} {G : Nat → Int} {kn : List Int} (h1 : kn.length = ns.length) (h2 : KnOk kn) (h3 : ∀ (j : Nat) (v : Int), kn[j]? = some v → 0 < v → v = G j) (h4 : ∀ (j : Nat) (v : Int), kn[j]? = some v → ¬ v < 0) (p : Nat) : Memo ns G kn p :=
 ⟨h1, h2, h3, fun j v hj hv => absurd hv (h4 j v hj)⟩

/-! Names by their last dot. -/
def sp1 : List UInt8 → List UInt8 × List (List UInt8)
 | [] => ([], [])
 | c :: cs => if c = 46 then ([], (sp1 cs).1 :: (sp1 cs).2) else (c :: (sp1 cs).1, (sp1 cs).2)
def okF (s : List UInt8) : Bool := simp1 (sp1 s).1 && (sp1 s).2.all simp1
theorem sp1_none : ∀ t : List UInt8, 46 ∉ t → sp1 t = (t, [])
 | [], _ => rfl
 | c :: cs, h => by
   have hc : c ≠ 46 := fun e => h (e ▸ List.mem_cons_self)
   rw [sp1, if_neg hc, sp1_none cs fun hm => h (List.mem_cons_of_mem _ hm)]
theorem sp1_dot {t : List UInt8} (ht : 46 ∉ t) : ∀ s : List UInt8, sp1 (s ++ 46 :: t) = ((sp1 s).1, (sp1 s).2 ++ [t])
 | [] => by
   have e : sp1 (46 :: t) = ([], (sp1 t).1 :: (sp1 t).2) := by rw [sp1.eq_2, if_pos rfl]
   rw [List.nil_append, e, sp1_none t ht]
   rfl
 | c :: cs => by
   rw [List.cons_append, sp1, sp1, sp1_dot ht cs]
   split
   · rfl
   · rfl
theorem okF_none {t : List UInt8} (h : 46 ∉ t) : okF t = simp1 t := by
 rw [okF, sp1_none t h]
 simp
theorem okF_dot {t : List UInt8} (ht : 46 ∉ t) (s : List UInt8) : okF (s ++ 46 :: t) = (okF s && simp1 t) := by
 rw [okF, sp1_dot ht, okF]
 simp [List.all_append, Bool.and_assoc]
theorem sp1_take : ∀ s : List UInt8, (sp1 s).1 = s.takeWhile (· != 46) ∧ (sp1 s).2 = match s.dropWhile (· != 46) with | [] => [] | _ :: r => (sp1 r).1 :: (sp1 r).2
 | [] => ⟨rfl, rfl⟩
 | c :: cs => by
   obtain ⟨h1, h2⟩ := sp1_take cs
   by_cases h : c = 46
   · subst h
     exact ⟨by simp [sp1], by simp [sp1]⟩
   · have hb : (c != 46) = true := by simp [h]
     rw [sp1, if_neg h, List.takeWhile_cons, List.dropWhile_cons, if_pos hb, if_pos hb]
     exact ⟨by rw [h1], h2⟩
theorem fullF_ok : ∀ (n : Nat) (s : List UInt8), s.length < n → fullF n s = okF s
 | 0, _, h => by omega
 | n + 1, s, h => by
   obtain ⟨h1, h2⟩ := sp1_take s
   rw [fullF, okF, h1, h2]
   congr 1
   have hd : (s.dropWhile (· != 46)).length ≤ s.length := (List.dropWhile_sublist _).length_le
   cases hr : s.dropWhile (· != 46) with
   | nil => rfl
   | cons x r =>
     rw [hr] at hd
     simp at hd
     simp only []
     rw [fullF_ok n r (by omega), List.all_cons]
     rfl
theorem fullM_ok (s : List UInt8) : fullM s = (decide (s.length ≤ 100) && okF s) := by rw [fullM, fullF_ok _ s (by omega)]
def dotA : Nat → Int → List UInt8 → Int
 | _, a, [] => a
 | i, a, c :: cs => dotA (i + 1) (if c = 46 then (i : Int) else a) cs
def dotI (s : List UInt8) : Int := dotA 0 (-1) s
theorem dotA_spec : ∀ (l : List UInt8) (i : Nat) (a : Int), (46 ∉ l ∧ dotA i a l = a) ∨ ∃ j : Nat, j < l.length ∧ l[j]? = some 46 ∧ 46 ∉ l.drop (j + 1) ∧ dotA i a l = ((i + j : Nat) : Int)
 | [], i, a => .inl ⟨by simp, rfl⟩
 | c :: cs, i, a => by
   rw [dotA]
   rcases dotA_spec cs (i + 1) (if c = 46 then (i : Int) else a) with ⟨h1, h2⟩ | ⟨j, h0, h1, h2, h3⟩
   · by_cases hc : c = 46
     · rw [if_pos hc] at h2 ⊢
       exact .inr ⟨0, by simp, by simp [hc], by simpa using h1, by rw [h2]; simp⟩
     · rw [if_neg hc] at h2 ⊢
       refine .inl ⟨?_, h2⟩
       intro hm
       rcases List.mem_cons.1 hm with e | hm
       · exact hc e.symm
       · exact h1 hm
   · exact .inr ⟨j + 1, by simp; omega, by simpa using h1, by simpa using h2, by rw [h3]; congr 1; omega⟩
theorem dotI_spec (l : List UInt8) : (46 ∉ l ∧ dotI l = -1) ∨ ∃ j : Nat, j < l.length ∧ dotI l = (j : Int) ∧ l = l.take j ++ 46 :: l.drop (j + 1) ∧ 46 ∉ l.drop (j + 1) := by
 rcases dotA_spec l 0 (-1) with h | ⟨j, h0, h1, h2, h3⟩
 · exact .inl h
 · refine .inr ⟨j, h0, by rw [dotI, h3]; simp, ?_, h2⟩
   obtain ⟨hlt, he⟩ := List.getElem?_eq_some_iff.1 h1
   conv => lhs; rw [← List.take_append_drop j l, List.drop_eq_getElem_cons hlt, he]
/-! Nodes that are met. -/
def metM (ns : List NT) (d p : Nat) : Int := if (walkM ns d p).1 = true then ((walkM ns d p).2 : Int) else -1
/-! Weights by rounds. -/
def wAt (l : List Int) (q : Nat) : Int := match l[q]? with | some n => n | none => 1
theorem wAt_of {l : List Int} {p : Nat} {v : Int} (h : l[p]? = some v) : wAt l p = v := by rw [wAt, h]
def wstep (ns : List NT) (l : List Int) : List Int := (List.range ns.length).map fun p => foldW (wAt l) (fieldsAt ns p) 1
def WOk (ns : List NT) (l : List Int) : Prop := l.length = ns.length ∧ (∀ x ∈ l, 1 ≤ x ∧ x ≤ 1001) ∧ ∀ p, p < ns.length → wAt l p ≤ foldW (wAt l) (fieldsAt ns p) 1
theorem wstep_at {ns : List NT} {l : List Int} {p : Nat} (h : p < ns.length) : (wstep ns l)[p]? = some (foldW (wAt l) (fieldsAt ns p) 1) := by
 unfold wstep
 rw [List.getElem?_map, List.getElem?_range h]
 rfl
theorem wAt_step {ns : List NT} {l : List Int} {p : Nat} (h : p < ns.length) : wAt (wstep ns l) p = foldW (wAt l) (fieldsAt ns p) 1 := wAt_of (wstep_at h)
theorem wAt_range {l : List Int} (h : ∀ x ∈ l, 1 ≤ x ∧ x ≤ 1001) (q : Nat) : 1 ≤ wAt l q ∧ wAt l q ≤ 1001 := by
 unfold wAt
 split
 · rename_i n hn
   exact h n (List.mem_of_getElem? hn)
 · exact ⟨by decide, by decide⟩
theorem wok_one (ns : List NT) : WOk ns (List.replicate ns.length 1) := by
 have hr : ∀ x ∈ List.replicate ns.length (1 : Int), 1 ≤ x ∧ x ≤ 1001 := fun x hx => by
  obtain rfl := (List.mem_replicate.1 hx).2
  exact ⟨by decide, by decide⟩
 refine ⟨by simp, hr, fun p hp => ?_⟩
 have : wAt (List.replicate ns.length 1) p = 1 := wAt_of (by rw [List.getElem?_replicate, if_pos hp])
 rw [this]
 exact foldW_ge (fun q => (wAt_range hr q).1) _ _ (by decide)
theorem wok_step {ns : List NT} {l : List Int} (h : WOk ns l) : WOk ns (wstep ns l) := by
 obtain ⟨h1, h2, h3⟩ := h
 have hr : ∀ x ∈ wstep ns l, 1 ≤ x ∧ x ≤ 1001 := fun x hx => by
  unfold wstep at hx
  obtain ⟨p, _, rfl⟩ := List.mem_map.1 hx
  exact ⟨foldW_ge (fun q => (wAt_range h2 q).1) _ _ (by decide), foldW_le _ _ (by decide)⟩
 refine ⟨by simp [wstep], hr, fun p hp => ?_⟩
 rw [wAt_step hp]
 refine foldW_mono (fun q => ?_) _ _ _ (Int.le_refl _)
 by_cases hq : q < ns.length
 · rw [wAt_step hq]
   exact h3 q hq
 · have e1 : wAt l q = 1 := by rw [wAt, List.getElem?_eq_none (by omega)]
   have e2 : wAt (wstep ns l) q = 1 := by rw [wAt, List.getElem?_eq_none (by simp [wstep]; omega)]
   omega
def wlack : List Int → Nat
 | [] => 0
 | x :: xs => (1001 - x).toNat + wlack xs
theorem wlack_le : ∀ (l l' : List Int), l.length = l'.length → (∀ p, wAt l p ≤ wAt l' p) → wlack l' ≤ wlack l
 | [], [], _, _ => Nat.le_refl _
 | x :: xs, y :: ys, hl, h => by
   have h0 := h 0
   have := wlack_le xs ys (by simpa using hl) fun p => h (p + 1)
   simp [wAt] at h0
   simp only [wlack]
   omega
theorem wlack_lt : ∀ (l l' : List Int), l.length = l'.length → (∀ p, wAt l p ≤ wAt l' p) → (∀ x ∈ l', x ≤ 1001) → l ≠ l' → wlack l' < wlack l
 | [], [], _, _, _, h => absurd rfl h
 | x :: xs, y :: ys, hl, h, hb, hne => by
   have h0 := h 0
   have hy := hb y (by simp)
   have hle := wlack_le xs ys (by simpa using hl) fun p => h (p + 1)
   simp [wAt] at h0
   simp only [wlack]
   by_cases hx : x = y
   · have := wlack_lt xs ys (by simpa using hl) (fun p => h (p + 1)) (fun z hz => hb z (by simp [hz])) fun e => hne (by rw [hx, e])
     omega
   · omega
theorem wstep_lack {ns : List NT} {l : List Int} (h : WOk ns l) (hne : wstep ns l ≠ l) : wlack (wstep ns l) < wlack l := by
 refine wlack_lt l _ (by simp [wstep, h.1]) (fun p => ?_) (fun x hx => ((wok_step h).2.1 x hx).2) fun e => hne e.symm
 by_cases hp : p < ns.length
 · rw [wAt_step hp]
   exact h.2.2 p hp
 · rw [wAt, List.getElem?_eq_none (by have := h.1; omega), wAt, List.getElem?_eq_none (by simp [wstep]; omega)]
   exact Int.le_refl _
theorem foldW_lt {g : Nat → Int} (hg : ∀ q, 1 ≤ g q) : ∀ (xs : List FT) (n : Int), 1 ≤ n → n ≤ 1001 → foldW g xs n < 1001 → ∀ x ∈ xs, g x.type.toNat < foldW g xs n
 | [], n, _, _, _, x, hx => by simp at hx
 | y :: ys, n, h1, h2, h, x, hx => by
   rw [foldW] at h ⊢
   have hgy := hg y.type.toNat
   rcases List.mem_cons.1 hx with rfl | hx
   · have := foldW_ge hg ys (min (n + g x.type.toNat) 1001) (by omega)
     omega
   · exact foldW_lt hg ys _ (by omega) (by omega) h x hx
theorem fix_le {ns : List NT} {G H : Nat → Int} (hG : ∀ p, 1 ≤ G p ∧ G p ≤ 1001) (hH : ∀ p, 1 ≤ H p ∧ H p ≤ 1001) (fG : ∀ p, p < ns.length → G p = foldW G (fieldsAt ns p) 1) (fH : ∀ p, p < ns.length → H p = foldW H (fieldsAt ns p) 1)
  (hr : ∀ p, ∀ x ∈ fieldsAt ns p, x.type.toNat < ns.length) : ∀ (m : Nat) (p : Nat), p < ns.length → G p < 1001 → G p ≤ (m : Int) → H p = G p
 | 0, p, _, _, h => by have := (hG p).1; omega
 | m + 1, p, hp, h1, h2 => by
   rw [fG p hp] at h1 h2 ⊢
   rw [fH p hp]
   refine foldW_congr _ _ fun x hx => ?_
   have := foldW_lt (fun q => (hG q).1) (fieldsAt ns p) 1 (by decide) (by decide) h1 x hx
   exact fix_le hG hH fG fH hr m _ (hr p x hx) (by omega) (by omega)
theorem fix_one {ns : List NT} {G H : Nat → Int} (hG : ∀ p, 1 ≤ G p ∧ G p ≤ 1001) (hH : ∀ p, 1 ≤ H p ∧ H p ≤ 1001) (fG : ∀ p, p < ns.length → G p = foldW G (fieldsAt ns p) 1) (fH : ∀ p, p < ns.length → H p = foldW H (fieldsAt ns p) 1)
  (hr : ∀ p, ∀ x ∈ fieldsAt ns p, x.type.toNat < ns.length) (p : Nat) (hp : p < ns.length) : H p = G p := by
 by_cases h1 : G p < 1001
 · exact fix_le hG hH fG fH hr 1001 p hp h1 (hG p).2
 · by_cases h2 : H p < 1001
   · exact (fix_le hH hG fH fG hr 1001 p hp h2 (hH p).2).symm
   · have := (hG p).2
     have := (hH p).2
     omega
theorem wok_G {ns : List NT} {G : Nat → Int} {l : List Int} (hG : IsG ns G) (hr : ∀ p, ∀ x ∈ fieldsAt ns p, x.type.toNat < ns.length) (h : WOk ns l) (he : wstep ns l = l) (p : Nat) (hp : p < ns.length) : l[p]? = some (G p) := by
 have hlt : p < l.length := by rw [h.1]; exact hp
 have e : l[p]? = some (wAt l p) := by
  rw [List.getElem?_eq_getElem hlt]
  congr 1
  exact (wAt_of (List.getElem?_eq_getElem hlt)).symm
 rw [e]
 congr 1
 exact fix_one hG.range (fun q => wAt_range h.2.1 q) hG.fix (fun q hq => by rw [← wAt_step hq, he]) hr p hp
theorem rightL_eq {ns : List NT} {G : Nat → Int} (hG : IsG ns G) (hr : ∀ p, ∀ x ∈ fieldsAt ns p, x.type.toNat < ns.length) : ∀ (r : List NT) (p : Nat) (kn : List Int), p + r.length = ns.length → kn.length = ns.length → KnOk kn → (∀ (j : Nat) (v : Int), kn[j]? = some v → 0 < v → v = G j) → (∀ (j : Nat) (v : Int), kn[j]? = some v → ¬ v < 0) →
  (rightL ns r p kn = true ↔ (∀ n ∈ r, nodeM ns n = true) ∧ ∀ i, p ≤ i → i < ns.length → G i ≤ 1000)
 | [], p, kn, hl, _, _, _, _ => by
   simp at hl
   simp only [rightL, true_iff]
   exact ⟨by simp, fun i h1 h2 => by omega⟩
 | n :: r, p, kn, hl, h1, h2, h3, h4 => by
   rw [rightL]
   simp only [Bool.and_eq_true, decide_eq_true_eq]
   simp at hl
   have hc := List.count_le_length (a := (0 : Int)) (l := kn)
   obtain ⟨e, hk⟩ := weighM_spec hG hr (ns.length + 1) p kn (by omega) (memo_none h1 h2 h3 h4 p) (by omega)
   rw [e, rightL_eq hG hr r (p + 1) _ (by omega) hk.len hk.ok hk.pos (fun j v hj hv => by
       obtain ⟨u, hu, hu0⟩ := hk.neg j v hj hv
       exact h4 j u hu hu0)]
   constructor
   · rintro ⟨a, b, c, d⟩
     refine ⟨fun m hm => ?_, fun i hi hi2 => ?_⟩
     · rcases List.mem_cons.1 hm with rfl | hm
       · exact a
       · exact c m hm
     · by_cases hip : i = p
       · rw [hip]; exact b
       · exact d i (by omega) hi2
   · rintro ⟨a, b⟩
     exact ⟨a n (by simp), b p (Nat.le_refl _) (by omega), fun m hm => a m (by simp [hm]), fun i hi hi2 => b i (by omega) hi2⟩
theorem rightM_eq {s : ST} {G : Nat → Int} (hG : IsG s.nodes G) (hr : ∀ p, ∀ x ∈ fieldsAt s.nodes p, x.type.toNat < s.nodes.length) :
  rightM s = true ↔ orderedM s = true ∧ (∀ n ∈ s.nodes, nodeM s.nodes n = true) ∧ (∀ i, i < s.nodes.length → G i ≤ 1000) ∧ (namesM s.nodes).Nodup := by
 have hz : ∀ (j : Nat) (v : Int), (List.replicate s.nodes.length (0 : Int))[j]? = some v → v = 0 := fun j v hj => (List.mem_replicate.1 (List.mem_of_getElem? hj)).2
 have h := rightL_eq hG hr s.nodes 0 (List.replicate s.nodes.length 0) (by simp) (by simp) (fun x hx => by obtain rfl := (List.mem_replicate.1 hx).2; decide) (fun j v hj hv => by have := hz j v hj; omega) (fun j v hj => by have := hz j v hj; omega)
 unfold rightM diffM
 simp only [Bool.and_eq_true, decide_eq_true_eq, h, List.all_eq_true]
 constructor
 · rintro ⟨a, ⟨b, c⟩, d, e⟩
   exact ⟨a, b, fun i hi => c i (Nat.zero_le _) hi, e⟩
 · rintro ⟨a, b, c, d⟩
   refine ⟨a, ⟨b, fun i _ hi => c i hi⟩, fun x hx => ?_, d⟩
   obtain ⟨n, hn, rfl⟩ := List.mem_map.1 hx
   obtain ⟨hn1, hn2⟩ := List.mem_filter.1 hn
   have := b n hn1
   unfold nodeM at this
   simp only [Bool.and_eq_true] at this
   have h2 := this.2.1
   rw [hn2] at h2
   simp only [Bool.not_true, Bool.false_or, Bool.and_eq_true] at h2
   exact h2.1

def bA (l : List UInt8) : List (List AV) := l.map fun b => [AV.c (.v (.int .u8 (b.toNat : Int)))]
theorem bA_len (l : List UInt8) : (bA l).length = l.length := by simp [bA]
theorem bA_at {l : List UInt8} {i : Nat} {x : UInt8} (h : l[i]? = some x) : (bA l)[i]? = some [AV.c (.v (.int .u8 (x.toNat : Int)))] := by simp [bA, h]
theorem bA_set (l : List UInt8) (i : Nat) (x : UInt8) : (bA l).set i [AV.c (.v (.int .u8 (x.toNat : Int)))] = bA (l.set i x) := by simp [bA, List.map_set]
theorem bA_app (l m : List UInt8) : bA l ++ bA m = bA (l ++ m) := by simp [bA]
theorem bA_one (l : List UInt8) (x : UInt8) : bA l ++ [[AV.c (.v (.int .u8 (x.toNat : Int)))]] = bA (l ++ [x]) := by simp [bA]
theorem bA_nil : bA [] = [] := rfl
theorem bA_cons (x : UInt8) (l : List UInt8) : bA (x :: l) = [AV.c (.v (.int .u8 (x.toNat : Int)))] :: bA l := rfl
theorem bA_pv (l : List UInt8) : bA l = (bytePV l).map fun e => e.map AV.c := by simp [bA, bytePV]
theorem bA_ren (ρ : Nat → Nat) (l : List UInt8) : (bA l).map (AV.renL ρ) = bA l := by
 induction l with
 | nil => rfl
 | cons x l ih => rw [bA_cons, List.map_cons, ih]; rfl
theorem bA_sc {used : Nat → Prop} {h : Nat → Option Blkd} (l : List UInt8) : (∀ e ∈ bA l, ∀ x ∈ e, Sc used h x) = True := eq_true fun e he x hx => by
 obtain ⟨b, _, rfl⟩ := List.mem_map.1 he
 simp at hx
 subst hx
 exact .c
def bB (l : List UInt8) : Blkd := ⟨true, 5, 1, bA l⟩
theorem reverse_told (l : List UInt8) (hl : l.length ≤ 1099511627776) : ToldM Tryz.prog 195 [.row 1000000 l.length] [bB l] [some (bB l.reverse)] (.tup []) := by
 unfold bB
 refine VC.toldXF (And.intro @bA_len @bA_sc) ent_195 [] Tryz.func195 rfl Tryz.ntmps195 fun hb hbL => ?_
 clear hb hbL
 have hw0 : IntKind.i64.wrap ((l.length : Int) - 1) = (l.length : Int) - 1 := wrap64_id (by omega) (by omega)
 refine walkGF (And.intro @bA_len hw0) ?_
 refine VC.loop (ι := {p : Nat × List UInt8 // p.2.length = l.length ∧ 2 * p.1 ≤ l.length ∧ ∀ k, k < l.length → p.2[k]? = if k < p.1 ∨ l.length ≤ k + p.1 then l[l.length - 1 - k]? else l[k]?})
  (fun p => [(0, .row 1000000 l.length), (2, .c (.v (.int .i64 p.1.1))), (3, .c (.v (.int .i64 ((l.length : Int) - 1 - (p.1.1 : Int)))))]) (fun p => [(1000000, ⟨true, 5, 1, bA p.1.2⟩)]) 0 (fun p => l.length - p.1.1)
  ⟨(0, l), rfl, by simp, fun k hk => by simp only []; rw [if_neg (by omega)]⟩ ?_ ?_
 · refine weakXF (And.intro @bA_len @bA_sc) ?_
   simp
 rintro ⟨⟨i, c⟩, hcl, hi, hk⟩
 simp only [] at hcl hi hk ⊢
 refine walkGF (@bA_len) ?_
 refine VC.cond (by rfl) (by trivial) (fun hc => ?_) (fun hc => ?_)
 · have hij : (i : Int) < (l.length : Int) - 1 - (i : Int) := by simpa using hc
   obtain ⟨j, hj⟩ : ∃ j : Nat, (l.length : Int) - 1 - (i : Int) = (j : Int) := ⟨l.length - 1 - i, by omega⟩
   obtain ⟨x, hx⟩ : ∃ x, c[i]? = some x := ⟨c[i]'(by omega), List.getElem?_eq_getElem _⟩
   obtain ⟨y, hy⟩ : ∃ y, c[j]? = some y := ⟨c[j]'(by omega), List.getElem?_eq_getElem _⟩
   have hx1 := bA_at hx
   have hy1 := bA_at hy
   have hy2 : ((bA c).set i [AV.c (.v (.int .u8 (y.toNat : Int)))])[j]? = some [AV.c (.v (.int .u8 (y.toNat : Int)))] := by
    rw [List.getElem?_set_ne (by omega)]; exact hy1
   have hw1 : IntKind.i64.wrap ((i : Int) + 1) = (i : Int) + 1 := wrap64_id (by omega) (by omega)
   have hw2 : IntKind.i64.wrap ((j : Int) - 1) = (j : Int) - 1 := wrap64_id (by omega) (by omega)
   rw [hj]
   (repeat (first | refine pass ?_ | refine VC.region (by rfl) (by rfl) ?_ | (refine AO.step fun K hK => ?_; simp only [bA_len, hx1, hy1, hy2, hw1, hw2, hcl, List.length_set, go_sem, Int.reduceBEq, Int.reduceLE, Int.reduceLT, Int.reduceNeg, Nat.reduceAdd, Nat.reduceEqDiff, Nat.reduceLT, Nat.reduceLeDiff, Nat.reduceMul, Nat.reduceSub, reduceCtorEq, ↓reduceIte]; (first | refine gsel_skip ?_ | refine gsel_go ?_ | skip); (first | refine hK _ _ _ ?_ | refine ⟨by first | omega | exact ⟨_, rfl, rfl⟩ | exact fun _ => ⟨_, rfl, rfl⟩ | (intro h; simp only [bA_len, hx1, hy1, hy2, hw1, hw2, hcl, List.length_set, h, true_and]; omega) | (clear hK; intro h; simp_all <;> omega), hK _ _ _ ?_⟩); clear hK K) | refine VC.draw mixP (by rfl) (by rfl) ?_ | refine ⟨okd_of (by kernel_rfl), ?_⟩ | refine BQ.other (by decide) ?_ | refine VC.seq ?_ | refine AO.nil ?_ | refine VC.block ?_))
   refine .next ⟨(i + 1, (c.set i y).set j x), by simpa using hcl, by simp only []; omega, fun k hkl => ?_⟩ ?_ (by simp only []; omega)
   · simp only []
     have hki := hk i (by omega)
     have hkj := hk j (by omega)
     rw [if_neg (by omega)] at hki hkj
     rw [List.getElem?_set, List.getElem?_set]
     by_cases h1 : j = k
     · subst h1
       rw [if_pos rfl, if_pos (by simp; omega), if_pos (by omega), ← hx, hki]
       congr 1
       omega
     · rw [if_neg h1]
       by_cases h2 : i = k
       · subst h2
         rw [if_pos rfl, if_pos (by omega), if_pos (by omega), ← hy, hkj]
         congr 1
         omega
       · rw [if_neg h2, hk k hkl]
         by_cases h3 : k < i ∨ l.length ≤ k + i
         · rw [if_pos h3, if_pos (by omega)]
         · rw [if_neg h3, if_neg (by omega)]
   · simp only [bA_len, bA_sc, bA_set, List.length_set, Weak, eq_self, used_is, sc_any, sc_c, sc_pp, sc_ref, sc_row, sc_agg, sc_fn, ScL, some_imp, List.forall_mem_map, go_sem, Int.reduceBEq, Int.reduceLE, Int.reduceLT, Int.reduceNeg, Nat.reduceAdd, Nat.reduceEqDiff, Nat.reduceLT, Nat.reduceLeDiff, Nat.reduceMul, Nat.reduceSub, reduceCtorEq, ↓reduceIte]
     exact ⟨⟨cI (by omega), cI (by omega)⟩, by omega⟩
 · have hij : ¬ (i : Int) < (l.length : Int) - 1 - (i : Int) := by simpa using hc
   have hfin : c = l.reverse := by
    apply List.ext_getElem?
    intro k
    by_cases hkl : k < l.length
    · rw [hk k hkl, List.getElem?_reverse hkl]
      by_cases h3 : k < i ∨ l.length ≤ k + i
      · rw [if_pos h3]
      · rw [if_neg h3]; congr 1; omega
    · rw [List.getElem?_eq_none (by omega), List.getElem?_eq_none (by simp; omega)]
   subst hfin
   refine walkG ?_
   exact retZF (@bA_ren) Tryz.results195
def digs (u : Nat) : List UInt8 := if h : u < 10 then [UInt8.ofNat (48 + u)] else digs (u / 10) ++ [UInt8.ofNat (48 + u % 10)]
theorem digs_lt {u : Nat} (h : u < 10) : digs u = [UInt8.ofNat (48 + u)] := by rw [digs, dif_pos h]
theorem digs_ge {u : Nat} (h : ¬ u < 10) : digs u = digs (u / 10) ++ [UInt8.ofNat (48 + u % 10)] := by rw [digs, dif_neg h]
theorem digs_len : ∀ (k u : Nat), u < 10 ^ (k + 1) → (digs u).length ≤ k + 1
 | 0, u, h => by rw [digs_lt (by omega)]; simp
 | k + 1, u, h => by
   by_cases h1 : u < 10
   · rw [digs_lt h1]; simp
   · rw [digs_ge h1]
     have := digs_len k (u / 10) (by rw [Nat.pow_succ] at h; omega)
     simp
     omega
def mNumb (n : Int) : List UInt8 := (if n < 0 then [45] else []) ++ digs n.natAbs
theorem numb_digit (u : Nat) : IntKind.u8.wrap (IntKind.u64.wrap (48 + ((u % 10 : Nat) : Int))) = ((UInt8.ofNat (48 + u % 10)).toNat : Int) := by
 rw [UInt8.toNat_ofNat', IntWalk.u64_in _ ⟨by omega, by omega⟩, IntWalk.u8_in _ ⟨by omega, by omega⟩]
 omega
theorem number_told (l : List UInt8) (n : Int) (hl : l.length ≤ 1099511620000) (h1 : -9223372036854775808 ≤ n) (h2 : n ≤ 9223372036854775807) :
  ToldM Tryz.prog 153 [.row 1000000 l.length, .c (.v (.int .i64 n))] [bB l] [some (bB (l ++ mNumb n))] (.row 1000000 (l ++ mNumb n).length) := by
 unfold bB
 refine VC.toldXF (And.intro @bA_len @bA_sc) ent_153 [] Tryz.func153 rfl Tryz.ntmps153 fun hb hbL => ?_
 clear hb hbL
 obtain ⟨u, hu⟩ : ∃ u, u = n.natAbs := ⟨_, rfl⟩
 obtain ⟨p, hp⟩ : ∃ p : List UInt8, p = if n < 0 then [45] else [] := ⟨_, rfl⟩
 have hm : mNumb n = p ++ digs u := by rw [hu, hp]; rfl
 rw [hm]
 refine walkGF (@bA_len) ?_
 have hp1 : p.length ≤ 1 := by rw [hp]; split <;> simp
 have hul : u < 10 ^ 20 := by omega
 have hdl := digs_len 19 u hul
 refine VC.meet [(0, .row 1000000 (l ++ p).length), (5, .c (.v (.int .u64 (u : Int))))] [(1000000, ⟨true, 5, 1, bA (l ++ p)⟩)] 56 ?_ ?_
 · refine VC.cond (by rfl) (by trivial) (fun hc => ?_) (fun hc => ?_)
   · have hn : n < 0 := by simpa using hc
     rw [if_pos hn] at hp
     subst hp
     have hw : IntKind.u64.wrap (0 - IntKind.u64.wrap n) = (u : Int) := by
      rw [IntKind.wrap_u64, IntKind.wrap_u64]
      omega
     refine walkGF (And.intro @bA_len hw) ?_
     refine .normal ?_
     refine weakXF (And.intro @bA_len (And.intro @bA_sc hw)) ?_
     simp [bA]
   · have hn : ¬ n < 0 := by simpa using hc
     rw [if_neg hn] at hp
     subst hp
     have hw : IntKind.u64.wrap n = (u : Int) := by rw [IntWalk.u64_in _ ⟨by omega, by omega⟩]; omega
     refine walkGF (And.intro @bA_len hw) ?_
     refine .normal ?_
     simp only [bA_len, bA_sc, hw, List.append_nil, Nat.le_refl, Weak, eq_self, used_is, sc_any, sc_c, sc_pp, sc_ref, sc_row, sc_agg, sc_fn, ScL, some_imp, List.forall_mem_map, go_sem, Int.reduceBEq, Int.reduceLE, Int.reduceLT, Int.reduceNeg, Nat.reduceAdd, Nat.reduceEqDiff, Nat.reduceLT, Nat.reduceLeDiff, Nat.reduceMul, Nat.reduceSub, reduceCtorEq, ↓reduceIte]
 (refine VC.seq ?_; (first | refine VC.region (by rfl) (by rfl) ?_ | refine VC.draw mixP (by rfl) (by rfl) ?_); (repeat (refine AO.step fun K hK => ?_; simp only [go_sem, Int.reduceBEq, Int.reduceLE, Int.reduceLT, Int.reduceNeg, Nat.reduceAdd, Nat.reduceEqDiff, Nat.reduceLT, Nat.reduceLeDiff, Nat.reduceMul, Nat.reduceSub, reduceCtorEq, ↓reduceIte]; (first | refine gsel_skip ?_ | refine gsel_go ?_ | skip); (first | refine hK _ _ _ ?_ | refine ⟨by first | omega | exact ⟨_, rfl, rfl⟩ | exact fun _ => ⟨_, rfl, rfl⟩ | (intro h; simp only [h, true_and]; omega) | (clear hK; intro h; simp_all <;> omega), hK _ _ _ ?_⟩); clear hK K)); refine AO.nil ?_; first | refine SQ.normal ?_ | refine ⟨okd_of (by kernel_rfl), SQ.normal ?_⟩)
 refine VC.nil 6 5 1 (by rfl) (by trivial) (by rfl) ?_
 refine VC.seq (VC.block ?_)
 refine VC.loop (ι := {q : Nat × List UInt8 // q.1 ≤ u ∧ digs u = digs q.1 ++ q.2.reverse}) (fun q => [(0, .row 1000000 (l ++ p).length), (5, .c (.v (.int .u64 (q.1.1 : Int)))), (6, .row 64 q.1.2.length)])
  (fun q => [(1000000, ⟨true, 5, 1, bA (l ++ p)⟩), (64, ⟨true, 5, 1, bA q.1.2⟩)]) 72 (fun q => q.1.1) ⟨(u, []), Nat.le_refl _, by simp⟩ ?_ ?_
 · refine weakXF (And.intro @bA_len @bA_sc) ?_
   simp [bA_nil]
 rintro ⟨⟨v, ds⟩, hv, hd⟩
 simp only [] at hv hd ⊢
 have hdl2 : ds.length ≤ 20 := by rw [hd] at hdl; simp at hdl; omega
 have hdig : IntKind.u8.wrap (IntKind.u64.wrap (48 + ((v : Int).tmod 10))) = ((UInt8.ofNat (48 + v % 10)).toNat : Int) := by
  rw [← numb_digit v]
  rfl
 refine walkGF (@bA_len) ?_
 refine VC.cond (by rfl) (by trivial) (fun hc => ?_) (fun hc => ?_)
 · have hv9 : ¬ v < 10 := by simp at hc; omega
   have hq : IntKind.u64.wrap ((v : Int).tdiv 10) = ((v / 10 : Nat) : Int) := by rw [IntWalk.u64_quo _ _ ⟨by omega, by omega, by omega⟩]; omega
   refine walkGF (And.intro @bA_len (And.intro hdig hq)) ?_
   refine .next ⟨(v / 10, ds ++ [UInt8.ofNat (48 + v % 10)]), by simp only []; omega, by simp only []; rw [hd, digs_ge hv9]; simp⟩ ?_ (by simp only []; omega)
   refine weakXF (And.intro @bA_len (And.intro @bA_sc @bA_one)) ?_
   simp
 · have hv9 : v < 10 := by simp at hc; omega
   have hvm : IntKind.u8.wrap (IntKind.u64.wrap (48 + (v : Int))) = ((UInt8.ofNat (48 + v)).toNat : Int) := by
    have := numb_digit v
    rwa [Nat.mod_eq_of_lt hv9] at this
   obtain ⟨es, hes⟩ : ∃ es, es = ds ++ [UInt8.ofNat (48 + v)] := ⟨_, rfl⟩
   have hel : ds.length + 1 = es.length := by rw [hes]; simp
   have hbo : bA ds ++ [[AV.c (.v (.int .u8 ((UInt8.ofNat (48 + v)).toNat : Int)))]] = bA es := by rw [hes, bA_one]
   have hds : digs u = es.reverse := by rw [hd, hes, digs_lt hv9]; simp
   have hrl : es.length ≤ 20 := by rw [hds] at hdl; simpa using hdl
   refine walkGF (And.intro @bA_len (And.intro hvm (And.intro hel hbo))) ?_
   have hlp : (l ++ p).length ≤ 1099511620001 := by simp; omega
   ((refine AO.step fun K hK => ?_; simp only [go_sem, Int.reduceBEq, Int.reduceLE, Int.reduceLT, Int.reduceNeg, Nat.reduceAdd, Nat.reduceEqDiff, Nat.reduceLT, Nat.reduceLeDiff, Nat.reduceMul, Nat.reduceSub, reduceCtorEq, ↓reduceIte, bA_len, bB, bA_ren, hel, hbo]; (first | refine gsel_go ?_ | skip)); refine .inr (.inr (.inl ⟨?vy1, [64], ?va1, ?vl1, ?vm1, ?cond1, ?cont1⟩)); (case cond1 => ((repeat' apply And.intro) <;> (try ((with_reducible show ToldM _ _ _ _ _ _); exact reverse_told es (by omega)))); (all_goals first | trivial | (simp only [bA_len, bB, bA_ren, hel, hbo, go_sem, simprocAttr]; done) | (simp; done) | rfl)); (first | refine hK _ _ _ ?_ | (simp only [bA_len, bB, bA_ren, hel, hbo, go_sem, simprocAttr]; first | refine hK _ _ _ ?_ | refine ⟨rfl, hK _ _ _ ?_⟩)); clear hK K)
   (repeat (first | refine pass ?_ | refine VC.region (by rfl) (by rfl) ?_ | (refine AO.step fun K hK => ?_; simp only [bA_len, bB, bA_ren, List.length_reverse, go_sem, Int.reduceBEq, Int.reduceLE, Int.reduceLT, Int.reduceNeg, Nat.reduceAdd, Nat.reduceEqDiff, Nat.reduceLT, Nat.reduceLeDiff, Nat.reduceMul, Nat.reduceSub, reduceCtorEq, ↓reduceIte]; (first | refine gsel_skip ?_ | refine gsel_go ?_ | skip); (first | refine hK _ _ _ ?_ | refine ⟨by first | omega | exact ⟨_, rfl, rfl⟩ | exact fun _ => ⟨_, rfl, rfl⟩ | (intro h; simp only [bA_len, bB, bA_ren, List.length_reverse, h, true_and]; omega) | (clear hK; intro h; simp_all <;> omega), hK _ _ _ ?_⟩); clear hK K) | refine VC.draw mixP (by rfl) (by rfl) ?_ | refine ⟨okd_of (by kernel_rfl), ?_⟩ | refine BQ.other (by decide) ?_ | refine VC.seq ?_ | refine AO.nil ?_ | refine VC.block ?_))
   have hfin : l ++ p ++ es.reverse = l ++ (p ++ digs u) := by rw [hds]; simp
   have hfl : (l ++ p).length + es.length = (l ++ (p ++ digs u)).length := by rw [hds]; simp; omega
   refine retXF (And.intro @bA_ren (And.intro @bA_app (And.intro hfin hfl))) Tryz.results153 ?_
   exact .keepW rfl

theorem moreS_str (l : List UInt8) : moreS ⟨l.toArray⟩ = bA l := by simp [moreS, bA]
theorem bsz (l : List UInt8) : (⟨l.toArray⟩ : ByteArray).size = l.length := by simp [ByteArray.size]
def prA (u : Bool) : AV := if u = true then .ref 1000000 1 0 0 else .c (.v (.pointer none))
def prB (u : Bool) (n : Nat) (ov : Bool) : Blkd := ⟨false, 142, 3, [[prA u, .row 1000001 n, .c (.v (.bool ov))]]⟩
theorem zero8 : zU8 Tryz.prog 5 := by unfold zU8; kernel_rfl
theorem lies_pr : LiesB Tryz.prog 142 3 140 := by unfold LiesB; kernel_rfl
theorem noesc : NoEsc Tryz.prog 236 := fun x W => by
 rw [run_callFunc_extern Tryz.func236 (by kernel_rfl) (by kernel_rfl) (by kernel_rfl) (e := Extern.AbiNoEscape.same) (by kernel_rfl)]
 rw [Lib.run_noEscape]
 rfl
theorem zero8_t : zU8 Tryz.prog 5 = True := eq_true zero8
theorem lies_t : LiesB Tryz.prog 142 3 140 = True := eq_true lies_pr
theorem cc_told (u : Bool) (l : List UInt8) (ov : Bool) : ToldM Tryz.prog 222 [.ref 1000000 1 0 0] [prB u l.length ov, bB l] [some (prB true l.length ov), some (bB l)] (.tup []) := by
 unfold bB prB
 cases u with
 | false =>
   simp only [prA, if_true, Bool.false_eq_true, if_false]
   refine VC.toldXF (And.intro @bA_len @bA_sc) ent_222 [] Tryz.func222 rfl Tryz.ntmps222 fun hb hbL => ?_
   clear hb hbL
   refine walkG ?_
   refine VC.cond (by rfl) (by trivial) (fun hc => ?_) (fun hc => ?_)
   · refine walkGF (@lies_t) ?_
     (refine AO.step fun K hK => ?_; simp only [go_sem, Int.reduceBEq, Int.reduceLE, Int.reduceLT, Int.reduceNeg, Nat.reduceAdd, Nat.reduceEqDiff, Nat.reduceLT, Nat.reduceLeDiff, Nat.reduceMul, Nat.reduceSub, reduceCtorEq, ↓reduceIte, lies_t]; (first | refine gsel_go ?_ | skip))
     refine .inr (.inr (.inr (.inr ⟨noesc, hK _ _ _ ?_⟩)))
     clear hK K
     refine walkGF (@lies_t) ?_
     exact retZF (@bA_ren) Tryz.results222
   · exact absurd hc (by decide)
 | true =>
   simp only [prA, if_true, Bool.false_eq_true, if_false]
   refine VC.toldXF (And.intro @bA_len @bA_sc) ent_222 [] Tryz.func222 rfl Tryz.ntmps222 fun hb hbL => ?_
   clear hb hbL
   refine walkG ?_
   refine VC.cond (by rfl) (by trivial) (fun hc => ?_) (fun hc => ?_)
   · exact absurd hc (by decide)
   · refine walkG ?_
     refine VC.cond (by rfl) (by trivial) (fun hc => ?_) (fun hc => ?_)
     · exact absurd hc (by decide)
     · refine walkG ?_
       exact retZF (@bA_ren) Tryz.results222
theorem blen_told (u : Bool) (l : List UInt8) (ov : Bool) : ToldM Tryz.prog 193 [.ref 1000000 1 0 0] [prB u l.length ov, bB l] [some (prB u l.length ov), some (bB l)] (.c (.v (.int .i64 (l.length : Int)))) := by
 unfold bB prB
 cases u <;> simp only [prA, if_true, Bool.false_eq_true, if_false]
 all_goals
  refine VC.toldXF (And.intro @bA_len @bA_sc) ent_193 [] Tryz.func193 rfl Tryz.ntmps193 fun hb hbL => ?_
  clear hb hbL
  refine walkGF (@bA_len) ?_
  refine retXF (And.intro @bA_ren @bA_len) Tryz.results193 ?_
  exact .c _
theorem bwrite_told (u : Bool) (l s : List UInt8) (ov : Bool) (hl : l.length + s.length ≤ 1099511620000) :
  ToldM Tryz.prog 194 [.ref 1000000 1 0 0, .c (.v (.string ⟨s.toArray⟩))] [prB u l.length ov, bB l] [some (prB true (l ++ s).length ov), some (bB (l ++ s))] (.tup [.c (.v (.int .i64 (s.length : Int))), .c (.v .nilIface)]) := by
 have hcc := cc_told u l ov
 unfold bB prB at hcc ⊢
 simp only [prA, if_true] at hcc ⊢
 cases u <;> simp only [Bool.false_eq_true, if_false, if_true] at hcc ⊢
 · refine VC.toldXF (And.intro @bA_len @bA_sc) ent_194 [] Tryz.func194 rfl Tryz.ntmps194 fun hb hbL => ?_
   clear hb hbL
   refine walkGF (@bA_len) ?_
   refine walkLF (And.intro @bA_len @bA_ren) [1000000, 1000001] (hcc) ?_
   have hsz := bsz s
   have hms := moreS_str s
   refine walkGF (And.intro @bA_len (And.intro @bA_ren (And.intro @zero8_t (And.intro hsz hms)))) ?_
   refine ⟨by first | exact .inr rfl | exact .inl rfl, ?_⟩; rw [Tryz.results194]; simp only [bA_ren, bA_len, bA_app, List.length_append, resOk, resV, go_sem, simprocAttr]
   exact ⟨.c _, .c _⟩
 · refine VC.toldXF (And.intro @bA_len @bA_sc) ent_194 [] Tryz.func194 rfl Tryz.ntmps194 fun hb hbL => ?_
   clear hb hbL
   refine walkGF (@bA_len) ?_
   refine walkLF (And.intro @bA_len @bA_ren) [1000000, 1000001] (hcc) ?_
   have hsz := bsz s
   have hms := moreS_str s
   refine walkGF (And.intro @bA_len (And.intro @bA_ren (And.intro @zero8_t (And.intro hsz hms)))) ?_
   refine ⟨by first | exact .inr rfl | exact .inl rfl, ?_⟩; rw [Tryz.results194]; simp only [bA_ren, bA_len, bA_app, List.length_append, resOk, resV, go_sem, simprocAttr]
   exact ⟨.c _, .c _⟩
theorem bstring_told (u : Bool) (l : List UInt8) (ov : Bool) (hl : l ≠ []) : ToldM Tryz.prog 102 [.ref 1000000 1 0 0] [prB u l.length ov, bB l] [some (prB u l.length ov), none] (.c (.v (.string (bstr l)))) := by
 have h0 : 0 < l.length := List.length_pos_iff.2 hl
 unfold bB prB
 cases u <;> simp only [prA, if_true, Bool.false_eq_true, if_false]
 · refine VC.toldXF (And.intro @bA_len @bA_sc) ent_102 [] Tryz.func102 rfl Tryz.ntmps102 fun hb hbL => ?_
   clear hb hbL
   (repeat (first | refine pass ?_ | refine VC.region (by rfl) (by rfl) ?_ | (refine AO.step fun K hK => ?_; simp only [bA_len, h0, go_sem, Int.reduceBEq, Int.reduceLE, Int.reduceLT, Int.reduceNeg, Nat.reduceAdd, Nat.reduceEqDiff, Nat.reduceLT, Nat.reduceLeDiff, Nat.reduceMul, Nat.reduceSub, reduceCtorEq, ↓reduceIte]; (first | refine gsel_skip ?_ | refine gsel_go ?_ | skip); (first | refine hK _ _ _ ?_ | refine ⟨by first | omega | exact ⟨_, rfl, rfl⟩ | exact fun _ => ⟨_, rfl, rfl⟩ | (intro h; simp only [bA_len, h0, h, true_and]; omega) | (clear hK; intro h; simp_all <;> omega), hK _ _ _ ?_⟩); clear hK K) | refine VC.draw mixP (by rfl) (by rfl) ?_ | refine ⟨okd_of (by kernel_rfl), ?_⟩ | refine BQ.other (by decide) ?_ | refine VC.seq ?_ | refine AO.nil ?_ | refine VC.block ?_))
   (refine AO.step fun K hK => ?_; simp only [go_sem, Int.reduceBEq, Int.reduceLE, Int.reduceLT, Int.reduceNeg, Nat.reduceAdd, Nat.reduceEqDiff, Nat.reduceLT, Nat.reduceLeDiff, Nat.reduceMul, Nat.reduceSub, reduceCtorEq, ↓reduceIte, bA_len, h0]; (first | refine gsel_go ?_ | skip))
   refine ⟨bytePV l, ⟨bA_pv l, bytePV_ok l⟩, hK _ _ _ ?_⟩; clear hK K
   refine walkGF (@bytesOf_pv) ?_
   refine retXF (And.intro @bA_ren @bA_len) Tryz.results102 ?_
   exact .c _
 · refine VC.toldXF (And.intro @bA_len @bA_sc) ent_102 [] Tryz.func102 rfl Tryz.ntmps102 fun hb hbL => ?_
   clear hb hbL
   (repeat (first | refine pass ?_ | refine VC.region (by rfl) (by rfl) ?_ | (refine AO.step fun K hK => ?_; simp only [bA_len, h0, go_sem, Int.reduceBEq, Int.reduceLE, Int.reduceLT, Int.reduceNeg, Nat.reduceAdd, Nat.reduceEqDiff, Nat.reduceLT, Nat.reduceLeDiff, Nat.reduceMul, Nat.reduceSub, reduceCtorEq, ↓reduceIte]; (first | refine gsel_skip ?_ | refine gsel_go ?_ | skip); (first | refine hK _ _ _ ?_ | refine ⟨by first | omega | exact ⟨_, rfl, rfl⟩ | exact fun _ => ⟨_, rfl, rfl⟩ | (intro h; simp only [bA_len, h0, h, true_and]; omega) | (clear hK; intro h; simp_all <;> omega), hK _ _ _ ?_⟩); clear hK K) | refine VC.draw mixP (by rfl) (by rfl) ?_ | refine ⟨okd_of (by kernel_rfl), ?_⟩ | refine BQ.other (by decide) ?_ | refine VC.seq ?_ | refine AO.nil ?_ | refine VC.block ?_))
   (refine AO.step fun K hK => ?_; simp only [go_sem, Int.reduceBEq, Int.reduceLE, Int.reduceLT, Int.reduceNeg, Nat.reduceAdd, Nat.reduceEqDiff, Nat.reduceLT, Nat.reduceLeDiff, Nat.reduceMul, Nat.reduceSub, reduceCtorEq, ↓reduceIte, bA_len, h0]; (first | refine gsel_go ?_ | skip))
   refine ⟨bytePV l, ⟨bA_pv l, bytePV_ok l⟩, hK _ _ _ ?_⟩; clear hK K
   refine walkGF (@bytesOf_pv) ?_
   refine retXF (And.intro @bA_ren @bA_len) Tryz.results102 ?_
   exact .c _

def hexD (n : Nat) : UInt8 := if n < 10 then (48 + n).toUInt8 else (87 + n).toUInt8
def qByte (c : UInt8) : List UInt8 :=
 if c.toNat = 34 then [92, 34] else if c.toNat = 92 then [92, 92] else if c.toNat = 8 then [92, 98] else if c.toNat = 12 then [92, 102] else if c.toNat = 10 then [92, 110] else if c.toNat = 13 then [92, 114] else if c.toNat = 9 then [92, 116]
 else if c.toNat < 32 then [92, 117, 48, 48, hexD (c.toNat / 16), hexD (c.toNat % 16)] else [c]
def mQuote (s : List UInt8) : List UInt8 := 34 :: s.flatMap qByte ++ [34]
theorem qByte_len (c : UInt8) : (qByte c).length ≤ 6 := by
 unfold qByte
 repeat' split
 all_goals simp
theorem take_next {s : List UInt8} {k : Nat} {x : UInt8} (h : s[k]? = some x) : (s.take (k + 1)).flatMap qByte = (s.take k).flatMap qByte ++ qByte x := by
 have hk : k < s.length := by
  rcases Nat.lt_or_ge k s.length with h' | h'
  · exact h'
  · rw [List.getElem?_eq_none h'] at h; simp at h
 rw [List.take_succ_eq_append_getElem hk, List.flatMap_append]
 rw [List.getElem?_eq_getElem hk] at h
 simp at h
 rw [h]
 simp
theorem quote_len (s : List UInt8) : (mQuote s).length ≤ 6 * s.length + 2 := by
 have : ∀ l : List UInt8, (l.flatMap qByte).length ≤ 6 * l.length := by
  intro l
  induction l with
  | nil => simp
  | cons x l ih =>
    have := qByte_len x
    simp only [List.flatMap_cons, List.length_append, List.length_cons]
    omega
 have := this s
 simp only [mQuote, List.length_append, List.length_cons, List.length_nil]
 omega
def qIdx (y : Nat) : Int := Lib.indexByte [34, 92, 47, 8, 12, 10, 13, 9] y.toUInt8
def qEsc (k : Int) : UInt8 := ([34, 92, 47, 98, 102, 110, 114, 116][k.toNat]?).getD 0
def qHex (k : Nat) : UInt8 := ([48, 49, 50, 51, 52, 53, 54, 55, 56, 57, 97, 98, 99, 100, 101, 102][k]?).getD 0
theorem q_cases : ∀ y : Nat, y < 256 → (if 0 ≤ qIdx y ∧ y ≠ 47 then qIdx y < 8 ∧ qByte y.toUInt8 = [92, qEsc (qIdx y)] else if y < 32 then qByte y.toUInt8 = [92, 117, 48, 48, qHex (y / 16), qHex (y % 16)] else qByte y.toUInt8 = [y.toUInt8]) := by decide +kernel

theorem indexByte_told (s : ByteArray) (c : Int) : Told Tryz.prog 196 [.c (.v (.string s)), .c (.v (.int .u8 c))] (.c (.v (.int .i64 (Lib.indexByte s.data.toList c.toNat.toUInt8)))) :=
 told_plain (xs := [.string s, .int .u8 c]) ent_196 rfl fun W => Tryz.strings_IndexByte s c W
theorem and15 : ∀ y : Nat, y < 256 → IntKind.u8.wrap ((BitVec.ofInt IntKind.u8.bits ((y : Nat) : Int) &&& BitVec.ofInt IntKind.u8.bits 15).toNat : Int) = ((y % 16 : Nat) : Int) := by decide +kernel
theorem shr4 (y : Nat) : ((y : Nat) : Int).fdiv (2 ^ min (4 : Int).toNat IntKind.u8.bits) = ((y / 16 : Nat) : Int) := by
 rw [show min (4 : Int).toNat IntKind.u8.bits = 4 from rfl, Int.fdiv_eq_ediv_of_nonneg _ (by decide)]
 rfl
theorem quote_told (l s : List UInt8) (hl : l.length ≤ 1000000000) (hs : s.length ≤ 1000000000) :
  ToldM Tryz.prog 154 [.row 1000000 l.length, .c (.v (.string (str s)))] [bB l] [some (bB (l ++ mQuote s))] (.row 1000000 (l ++ mQuote s).length) := by
 have hql := quote_len s
 unfold bB
 refine VC.toldXF (And.intro @bA_len @bA_sc) ent_154 [] Tryz.func154 rfl Tryz.ntmps154 fun hb hbL => ?_
 clear hb hbL
 refine walkGF (And.intro @bA_len @str_size) ?_
 refine VC.loop (ι := {q : Nat × List UInt8 // q.1 ≤ s.length ∧ q.2 = l ++ 34 :: (s.take q.1).flatMap qByte ∧ q.2.length ≤ l.length + 1 + 6 * q.1}) (fun q => [(0, .row 1000000 q.1.2.length), (1, .c (.v (.string (str s)))), (12, .c (.v (.int .i64 (s.length : Int)))), (13, .c (.v (.int .i64 (q.1.1 : Int))))])
  (fun q => [(1000000, ⟨true, 5, 1, bA q.1.2⟩)]) 200 (fun q => s.length - q.1.1) ⟨(0, l ++ [34]), Nat.zero_le _, by simp, by simp⟩ ?_ ?_
 · refine weakXF (And.intro @bA_len @bA_sc) ?_
   simp [bA]
 rintro ⟨⟨i, c⟩, hi, hcc, hcl⟩
 simp only [] at hi hcc hcl ⊢
 refine walkGF (@bA_len) ?_
 refine VC.cond (by rfl) (by trivial) (fun hc => ?_) (fun hc => ?_)
 · have hlt : i < s.length := by simp at hc; omega
   obtain ⟨x, hx⟩ : ∃ x, s[i]? = some x := ⟨s[i], List.getElem?_eq_getElem hlt⟩
   obtain ⟨y, hy⟩ : ∃ y, y = x.toNat := ⟨_, rfl⟩
   have hxy : x = y.toUInt8 := by rw [hy]; simp
   have hy256 : y < 256 := by rw [hy]; exact x.toNat_lt
   have hq := q_cases y hy256
   have hI := indexByte_told ⟨#[34, 92, 47, 8, 12, 10, 13, 9]⟩ (y : Int)
   rw [show Lib.indexByte (⟨#[34, 92, 47, 8, 12, 10, 13, 9]⟩ : ByteArray).data.toList (y : Int).toNat.toUInt8 = qIdx y from rfl] at hI
   have hw : IntKind.i64.wrap ((i : Int) + 1) = (i : Int) + 1 := wrap64_id (by omega) (by omega)
   have hn : ∀ p, qByte y.toUInt8 = p → (c ++ p) = l ++ 34 :: (s.take (i + 1)).flatMap qByte ∧ (c ++ p).length ≤ l.length + 1 + 6 * (i + 1) := by
    intro p hp
    have hqx := qByte_len y.toUInt8
    rw [hp] at hqx
    refine ⟨?_, by rw [List.length_append]; omega⟩
    rw [take_next hx, hcc, hxy, hp]
    simp
   refine walkGF (And.intro @bA_len (And.intro @str_size (And.intro @str_dl (And.intro hx hy.symm)))) ?_
   refine walkCF (hy.symm) (hI) ?_
   refine walkGF (@bA_len) ?_
   refine VC.cond (by rfl) (by trivial) (fun h1 => ?_) (fun h1 => ?_)
   · rw [if_pos (by simp at h1; omega)] at hq
     obtain ⟨hk8, hqb⟩ := hq
     have hk0 : 0 ≤ qIdx y := by simp at h1; omega
     obtain ⟨e1, e2⟩ := hn _ hqb
     have hkn : (qIdx y).toNat < 8 := by omega
     have z1 : (⟨#[34, 92, 47, 98, 102, 110, 114, 116]⟩ : ByteArray).size = 8 := rfl
     have z2 : (((⟨#[34, 92, 47, 98, 102, 110, 114, 116]⟩ : ByteArray).data.toList)[(qIdx y).toNat]?).getD 0 = qEsc (qIdx y) := rfl
     refine walkGF (And.intro @bA_len (And.intro z1 (And.intro z2 hw))) ?_
     refine .next ⟨(i + 1, c ++ [92, qEsc (qIdx y)]), by simp only []; omega, e1, e2⟩ ?_ (by simp only []; omega)
     refine weakXF (And.intro @bA_len @bA_sc) ?_
     exact ⟨⟨by simp, cI (by omega)⟩, by simp [bA], Nat.le_refl _⟩
   · rw [if_neg (by simp at h1; omega)] at hq
     refine walkGF (@bA_len) ?_
     refine VC.cond (by rfl) (by trivial) (fun h2 => ?_) (fun h2 => ?_)
     · rw [if_pos (by simp at h2; omega)] at hq
       obtain ⟨e1, e2⟩ := hn _ hq
       have z1 : (⟨#[48, 49, 50, 51, 52, 53, 54, 55, 56, 57, 97, 98, 99, 100, 101, 102]⟩ : ByteArray).size = 16 := rfl
       have z2 : ∀ k : Nat, (((⟨#[48, 49, 50, 51, 52, 53, 54, 55, 56, 57, 97, 98, 99, 100, 101, 102]⟩ : ByteArray).data.toList)[k]?).getD 0 = qHex k := fun _ => rfl
       have z3 := and15 y hy256
       have z4 := shr4 y
       (try simp only [go_sem, Int.reduceBEq, Int.reduceLE, Int.reduceLT, Int.reduceNeg, Nat.reduceAdd, Nat.reduceEqDiff, Nat.reduceLT, Nat.reduceLeDiff, Nat.reduceMul, Nat.reduceSub, reduceCtorEq, ↓reduceIte] at z3)
       (try simp only [go_sem, Int.reduceBEq, Int.reduceLE, Int.reduceLT, Int.reduceNeg, Nat.reduceAdd, Nat.reduceEqDiff, Nat.reduceLT, Nat.reduceLeDiff, Nat.reduceMul, Nat.reduceSub, reduceCtorEq, ↓reduceIte] at z4)
       refine walkGF (And.intro @bA_len (And.intro z1 (And.intro z2 (And.intro z3 (And.intro z4 hw))))) ?_
       refine .next ⟨(i + 1, c ++ [92, 117, 48, 48, qHex (y / 16), qHex (y % 16)]), by simp only []; omega, e1, e2⟩ ?_ (by simp only []; omega)
       refine weakXF (And.intro @bA_len @bA_sc) ?_
       exact ⟨⟨by simp, cI (by omega)⟩, by simp [bA], Nat.le_refl _⟩
     · rw [if_neg (by simp at h2; omega)] at hq
       obtain ⟨e1, e2⟩ := hn _ hq
       refine walkGF (And.intro @bA_len hw) ?_
       refine .next ⟨(i + 1, c ++ [y.toUInt8]), by simp only []; omega, e1, e2⟩ ?_ (by simp only []; omega)
       refine weakXF (And.intro @bA_len @bA_sc) ?_
       rw [show (y : Int) = ((y.toUInt8).toNat : Int) from by rw [← hxy, hy], bA_one]
       exact ⟨⟨by simp, cI (by omega)⟩, rfl, Nat.le_refl _⟩
 · have hge : i = s.length := by simp at hc; omega
   subst hge
   rw [List.take_length] at hcc
   have hfin : c ++ [34] = l ++ mQuote s := by rw [hcc, mQuote]; simp
   have hfl : c.length + 1 = (l ++ mQuote s).length := by rw [← hfin]; simp
   refine walkGF (@bA_len) ?_
   refine retXF (And.intro @bA_ren (And.intro @bA_app (And.intro hfin hfl))) Tryz.results154 ?_
   exact ⟨by rw [← hfin]; simp [bA], .keepW rfl⟩

structure PS where
 u : Bool
 out : List UInt8
 ov : Bool
def PS.put (p : PS) (s : List UInt8) : PS := if p.ov = true ∨ 20000 < p.out.length + s.length then ⟨p.u, p.out, true⟩ else ⟨true, p.out ++ s, false⟩
def PS.ok (p : PS) : Prop := p.out.length ≤ 20000
theorem PS.put_ok {p : PS} (h : p.ok) (s : List UInt8) : (p.put s).ok := by
 unfold PS.put
 split
 · exact h
 · unfold PS.ok; simp only [List.length_append]; omega
def pcomma (p : PS) (i : Nat) : PS := if 0 < i then p.put [44] else p
def pkey (ko : Option (List (List UInt8))) (p : PS) (i : Nat) : PS := match ko with | none => p | some ks => p.put (mQuote ((ks[i]?).getD []) ++ [58])
mutual
def pTree (p : PS) : JT → PS
 | .mk k n s ks xs => if k = 1 then p.put [110, 117, 108, 108] else if k = 2 then (if n = 1 then p.put [116, 114, 117, 101] else p.put [102, 97, 108, 115, 101]) else if k = 3 then p.put (mNumb n) else if k = 4 then p.put (mQuote s)
   else if k = 5 then (pKids none (p.put [91]) 0 xs).put [93] else (pKids (some ks) (p.put [123]) 0 xs).put [125]
def pKids (ko : Option (List (List UInt8))) (p : PS) (i : Nat) : List JT → PS
 | [] => p
 | x :: xs => pKids ko (pTree (pkey ko (pcomma p i) i) x) (i + 1) xs
end
theorem pcomma_ok {p : PS} (h : p.ok) (i : Nat) : (pcomma p i).ok := by
 unfold pcomma
 split
 · exact PS.put_ok h _
 · exact h
theorem pkey_ok {p : PS} (h : p.ok) (ko : Option (List (List UInt8))) (i : Nat) : (pkey ko p i).ok := by
 cases ko with
 | none => exact h
 | some ks => exact PS.put_ok h _
mutual
theorem pTree_ok {p : PS} (h : p.ok) : ∀ t : JT, (pTree p t).ok
 | .mk k n s ks xs => by
   rw [pTree]
   repeat' split
   all_goals first
    | exact PS.put_ok h _
    | exact PS.put_ok (pKids_ok (PS.put_ok h _) _ _ xs) _
theorem pKids_ok {p : PS} (h : p.ok) (ko : Option (List (List UInt8))) (i : Nat) : ∀ xs : List JT, (pKids ko p i xs).ok
 | [] => h
 | x :: xs => by
   rw [pKids]
   exact pKids_ok (pTree_ok (pkey_ok (pcomma_ok h i) ko i) x) ko (i + 1) xs
end
theorem prA_sc {used : Nat → Prop} {h : Nat → Option Blkd} (u : Bool) : Sc used h (prA u) = (u = true → used 1000000 ∧ ∀ B, h 1000000 = some B → 1 ≤ B.len) := by
 cases u
 · exact propext ⟨fun _ h => by simp at h, fun _ => .c⟩
 · exact propext ⟨fun h _ => by cases h with | ref hu hn => exact ⟨hu, hn⟩, fun h => .ref (h rfl).1 (h rfl).2⟩
theorem prA_ce (u : Bool) : (prA u).cellish = true := by cases u <;> rfl
theorem prA_r2 (u : Bool) (n : Nat) : (prA u).ren (rho [1000000, 1000001] n) = prA u := by cases u <;> rfl
theorem prA_r3 (u : Bool) (n k : Nat) : (prA u).ren (rho [1000000, 1000001, k] n) = prA u := by cases u <;> rfl
theorem prA_e2 (u : Bool) : (prA u).ren (rhoE 2 []) = prA u := by cases u <;> rfl
theorem prA_e3 (u : Bool) : (prA u).ren (rhoE 3 []) = prA u := by cases u <;> rfl
def boxB : Blkd := ⟨false, 137, 1, [[.ref 1000000 1 0 0]]⟩
theorem put_told (p : PS) (s : List UInt8) (hp : p.ok) (hs : s.length ≤ 100000000000) : ToldM Tryz.prog 152 [.ref 1000000 1 0 0, .c (.v (.string (str s)))] [prB p.u p.out.length p.ov, bB p.out] [some (prB (p.put s).u (p.put s).out.length (p.put s).ov), some (bB (p.put s).out)] (.tup []) := by
 rcases p with ⟨u, l, ov⟩
 simp only [PS.ok] at hp ⊢
 have h1 := blen_told u l ov
 have h2 := bwrite_told u l s false (by omega)
 simp only [bB, prB, str] at h1 h2 ⊢
 have hw0 : IntKind.i64.wrap (20000 - (l.length : Int)) = 20000 - (l.length : Int) := wrap64_id (by omega) (by omega)
 have hsz := bsz s
 cases ov with
 | true =>
   have hq : (PS.mk u l true).put s = ⟨u, l, true⟩ := by unfold PS.put; rw [if_pos (.inl rfl)]
   rw [hq]
   refine VC.toldXF (And.intro @bA_len (And.intro @bA_sc (And.intro @prA_sc @prA_ce))) ent_152 [] Tryz.func152 rfl Tryz.ntmps152 fun hb hbL => ?_
   clear hb hbL
   refine walkGF (And.intro @bA_len (And.intro hsz @prA_ce)) ?_
   refine VC.cond (by rfl) (by trivial) (fun hc => ?_) (fun hc => ?_)
   · exact absurd hc (by decide)
   · refine walkG ?_
     exact retZF (And.intro @bA_ren @prA_e2) Tryz.results152
 | false =>
   refine VC.toldXF (And.intro @bA_len (And.intro @bA_sc (And.intro @prA_sc @prA_ce))) ent_152 [] Tryz.func152 rfl Tryz.ntmps152 fun hb hbL => ?_
   clear hb hbL
   refine walkGF (And.intro @bA_len (And.intro hsz @prA_ce)) ?_
   refine walkLF (And.intro @bA_len (And.intro hsz (And.intro @bA_ren @prA_r2))) [1000000, 1000001] (h1) ?_
   refine walkGF (And.intro @bA_len (And.intro hsz (And.intro hw0 (And.intro @prA_ce (And.intro @bA_ren @prA_r2))))) ?_
   refine VC.cond (by rfl) (by trivial) (fun hc => ?_) (fun hc => ?_)
   · have hle : ¬ 20000 < l.length + s.length := by simp at hc; omega
     have hd : decide ((s.length : Int) > 20000 - (l.length : Int)) = false := by simp; omega
     have hq : (PS.mk u l false).put s = ⟨true, l ++ s, false⟩ := by unfold PS.put; rw [if_neg (by simp; omega)]
     rw [hq]
     refine walkGF (And.intro @bA_len (And.intro hsz (And.intro @prA_ce (And.intro @bA_ren (And.intro @prA_r2 hd))))) ?_
     refine walkLF (And.intro @bA_len (And.intro hsz (And.intro @bA_ren (And.intro @prA_r2 hd)))) [1000000, 1000001] (h2) ?_
     refine walkGF (And.intro @bA_len (And.intro hsz (And.intro @prA_ce (And.intro @bA_ren @prA_r2)))) ?_
     exact retZF (And.intro @bA_ren (And.intro @prA_e2 @prA_r2)) Tryz.results152
   · have hle : 20000 < l.length + s.length := by simp at hc; omega
     have hd : decide ((s.length : Int) > 20000 - (l.length : Int)) = true := by simp; omega
     have hq : (PS.mk u l false).put s = ⟨u, l, true⟩ := by unfold PS.put; rw [if_pos (.inr hle)]
     rw [hq]
     refine walkG ?_
     exact retZF (And.intro @bA_ren (And.intro @prA_e2 (And.intro @prA_r2 hd))) Tryz.results152
theorem key2_told (p : PS) (i : Nat) : ToldM Tryz.prog 155 [.c (.v (.int .i64 (i : Int)))] [prB p.u p.out.length p.ov, bB p.out, boxB] [some (prB (pkey none p i).u (pkey none p i).out.length (pkey none p i).ov), some (bB (pkey none p i).out), some boxB] (.tup []) := by
 rw [show pkey none p i = p from rfl]
 simp only [bB, prB, boxB]
 refine VC.toldXF (And.intro @bA_len (And.intro @bA_sc (And.intro @prA_sc @prA_ce))) ent_155 [] Tryz.func155 rfl Tryz.ntmps155 fun hb hbL => ?_
 clear hb hbL
 refine walkG ?_
 exact retZF (And.intro @bA_ren @prA_e3) Tryz.results155
theorem key3_told (p : PS) (hp : p.ok) (i : Nat) (k n : Int) (s key : List UInt8) (ks : List (List UInt8)) (xs : List JT) (hi : ks[i]? = some key) (hkl : key.length ≤ 1000000000) :
  ToldM Tryz.prog 156 [.c (.v (.int .i64 (i : Int))), .ref 1000002 1 0 0, .pp (JT.mk k n s ks xs).cells] [prB p.u p.out.length p.ov, bB p.out, boxB]
   [some (prB (pkey (some ks) p i).u (pkey (some ks) p i).out.length (pkey (some ks) p i).ov), some (bB (pkey (some ks) p i).out), some boxB] (.tup []) := by
 have hil := (List.getElem?_eq_some_iff.1 hi).1
 have hq : pkey (some ks) p i = p.put (mQuote key ++ [58]) := by simp [pkey, hi]
 rw [hq]
 obtain ⟨s2, hs2⟩ : ∃ s2, s2 = mQuote key ++ [58] := ⟨_, rfl⟩
 have hql := quote_len key
 have hs2l : s2.length ≤ 6000000003 := by rw [hs2, List.length_append, List.length_singleton]; omega
 rw [← hs2]
 have h1 := quote_told [] key (by simp) hkl
 have h2 := put_told p s2 hp (by omega)
 simp only [bB, prB, boxB, List.nil_append, List.length_nil, bA_nil] at h1 h2 ⊢
 have h1 : ToldM Tryz.prog _ _ ([] ++ [⟨true, 5, 1, []⟩]) _ _ := h1
 refine VC.toldXF (And.intro @bA_len (And.intro @bA_sc (And.intro @prA_sc @prA_ce))) ent_156 [] Tryz.func156 rfl Tryz.ntmps156 fun hb hbL => ?_
 clear hb hbL
 have hki : (ks.map sPV)[i]? = some [.v (.string (str key))] := by rw [List.getElem?_map, hi]; rfl
 have hap : bA (mQuote key) ++ [[AV.c (.v (.int .u8 58))]] = bA s2 := by rw [hs2, ← bA_one]; rfl
 have hapl : (mQuote key).length + 1 = s2.length := by rw [hs2]; simp
 refine walkGF (And.intro @cells_mk hki) ?_
 ((refine AO.step fun K hK => ?_; simp only [go_sem, Int.reduceBEq, Int.reduceLE, Int.reduceLT, Int.reduceNeg, Nat.reduceAdd, Nat.reduceEqDiff, Nat.reduceLT, Nat.reduceLeDiff, Nat.reduceMul, Nat.reduceSub, reduceCtorEq, ↓reduceIte, cells_mk, hki, bA_nil, bA_ren]; (first | refine gsel_go ?_ | skip)); (first | refine .inr (.inr (.inr ⟨?vy1, [], ?vt1, ?vz1, ?va1, ?vl1, ?vm1, ?cond1, ?cont1⟩)) | refine .inr (.inr (.inr (.inl ⟨?vy1, [], ?vt1, ?vz1, ?va1, ?vl1, ?vm1, ?cond1, ?cont1⟩)))); (case cond1 => ((repeat' apply And.intro) <;> (try ((with_reducible show ToldM _ _ _ _ _ _); exact h1))); (all_goals first | trivial | (simp only [cells_mk, hki, bA_nil, bA_ren, go_sem, simprocAttr]; done) | (simp; done) | rfl)); (first | refine hK _ _ _ ?_ | (simp only [cells_mk, hki, bA_nil, bA_ren, go_sem, simprocAttr]; first | refine hK _ _ _ ?_ | refine ⟨rfl, hK _ _ _ ?_⟩)); clear hK K)
 refine walkGF (And.intro @bA_len (And.intro @bA_ren (And.intro hap hapl))) ?_
 (refine AO.step fun K hK => ?_; simp only [go_sem, Int.reduceBEq, Int.reduceLE, Int.reduceLT, Int.reduceNeg, Nat.reduceAdd, Nat.reduceEqDiff, Nat.reduceLT, Nat.reduceLeDiff, Nat.reduceMul, Nat.reduceSub, reduceCtorEq, ↓reduceIte, bA_len, bA_ren, hap, hapl]; (first | refine gsel_go ?_ | skip))
 refine ⟨bytePV s2, ⟨bA_pv s2, bytePV_ok s2⟩, hK _ _ _ ?_⟩; clear hK K
 refine walkGF (@bytesOf_pv) ?_
 refine walkLF (And.intro @bytesOf_pv (And.intro @str_eq (And.intro @bA_ren @prA_r2))) [1000000, 1000001] (h2) ?_
 refine walkGF (And.intro @bA_len (And.intro @prA_ce (And.intro @bA_ren @prA_r2))) ?_
 exact retZF (And.intro @bA_ren (And.intro @prA_e3 @prA_r2)) Tryz.results156

theorem tree1L_told (p : PS) (hp : p.ok) (o e : List UInt8) (ho : o.length ≤ 10) (he : e.length ≤ 10) (k n : Int) (s : List UInt8) (ks : List (List UInt8)) (xs : List JT) (hxl : xs.length ≤ 1000000000)
  (hx : ∀ x ∈ xs, ∀ q : PS, q.ok → ToldM Tryz.prog 101 [.ref 1000000 1 0 0, x.av] [prB q.u q.out.length q.ov, bB q.out] [some (prB (pTree q x).u (pTree q x).out.length (pTree q x).ov), some (bB (pTree q x).out)] (.tup [])) :
  ToldM Tryz.prog 151 [.c (.v (.string (str o))), .c (.v (.string (str e))), .fn (.func 155) [] [], .ref 1000002 1 0 0, .pp (JT.mk k n s ks xs).cells] [prB p.u p.out.length p.ov, bB p.out, boxB]
   [some (prB ((pKids none (p.put o) 0 xs).put e).u ((pKids none (p.put o) 0 xs).put e).out.length ((pKids none (p.put o) 0 xs).put e).ov), some (bB ((pKids none (p.put o) 0 xs).put e).out), some boxB] (.tup []) := by
 have h1 := put_told p o hp (by omega)
 have hok := PS.put_ok hp o
 generalize p.put o = p1 at h1 hok ⊢
 obtain ⟨F1, hF1⟩ : ∃ F1, F1 = pKids none p1 0 xs := ⟨_, rfl⟩
 rw [← hF1]
 simp only [prB, bB, boxB] at h1 ⊢
 refine VC.toldXF (And.intro @bA_len (And.intro @bA_sc (And.intro @prA_sc @prA_ce))) ent_151 [] Tryz.func151 rfl Tryz.ntmps151 fun hb hbL => ?_
 clear hb hbL
 refine walkGF (@cells_mk) ?_
 refine walkLF (And.intro @bA_ren @prA_r2) [1000000, 1000001] (h1) ?_
 refine walkGF (And.intro @cells_mk (And.intro @bA_ren (And.intro @prA_r2 @bA_len))) ?_
 refine VC.loop (ι := {q : Nat × PS // q.1 ≤ xs.length ∧ pKids none q.2 q.1 (xs.drop q.1) = F1 ∧ q.2.ok})
  (fun q => [(1, .c (.v (.string (str e)))), (2, .fn (.func 155) [] []), (3, .ref 1000002 1 0 0), (4, .pp (JT.mk k n s ks xs).cells), (14, .c (.sl 5 (xs.map JT.cells))), (15, .c (.v (.int .i64 (xs.length : Int)))), (16, .c (.v (.int .i64 (q.1.1 : Int))))])
  (fun q => [(1000000, ⟨false, 142, 3, [[prA q.1.2.u, .row 1000001 q.1.2.out.length, .c (.v (.bool q.1.2.ov))]]⟩), (1000001, ⟨true, 5, 1, bA q.1.2.out⟩), (1000002, ⟨false, 137, 1, [[.ref 1000000 1 0 0]]⟩)])
  64 (fun q => xs.length - q.1.1) ⟨(0, p1), Nat.zero_le _, by simp [hF1], hok⟩ ?_ ?_
 · refine weakXF (And.intro @bA_len (And.intro @bA_sc (And.intro @prA_sc (And.intro @prA_r2 @bA_ren)))) ?_
   simp [prA_ce, bA_sc]
 rintro ⟨⟨i, q⟩, hi, hfin, hq⟩
 simp only [] at hi hfin hq ⊢
 refine walkG ?_
 refine VC.cond (by rfl) (by trivial) (fun hc => ?_) (fun hc => ?_)
 · have hlt : i < xs.length := by simp at hc; omega
   obtain ⟨x, hxi⟩ : ∃ x, xs[i]? = some x := ⟨xs[i], List.getElem?_eq_getElem hlt⟩
   have hxc : (xs.map JT.cells)[i]? = some x.cells := by rw [List.getElem?_map, hxi]; rfl
   have hxm := List.mem_of_getElem? hxi
   have hpc : (pcomma q i).ok := pcomma_ok hq i
   have hw : IntKind.i64.wrap ((i : Int) + 1) = (i : Int) + 1 := wrap64_id (by omega) (by omega)
   have h3 := key2_told (pcomma q i) i
   have hpko := pkey_ok hpc none i
   have h4 := hx x hxm (pkey none (pcomma q i) i) hpko
   have hnx : pKids none (pTree (pkey none (pcomma q i) i) x) (i + 1) (xs.drop (i + 1)) = F1 := by
    rw [← hfin, List.drop_eq_getElem_cons hlt, pKids]
    rw [List.getElem?_eq_getElem hlt] at hxi
    rw [Option.some.inj hxi]
   have hnok := pTree_ok hpko x
   simp only [JT.av, prB, bB, boxB] at h3 h4
   refine walkGF (And.intro hxc (And.intro @len_cells (And.intro @take_cells @take_cellsC))) ?_
   have hcm := put_told q [44] hq (by decide)
   simp only [prB, bB, str] at hcm
   refine VC.meet [(1, .c (.v (.string (str e)))), (2, .fn (.func 155) [] []), (3, .ref 1000002 1 0 0), (4, .pp (JT.mk k n s ks xs).cells), (8, .c (.v (.int .i64 (i : Int)))), (9, .ref 96 1 0 0), (14, .c (.sl 5 (xs.map JT.cells))), (15, .c (.v (.int .i64 (xs.length : Int)))), (16, .c (.v (.int .i64 (i : Int))))]
    [(1000000, ⟨false, 142, 3, [[prA (pcomma q i).u, .row 1000001 (pcomma q i).out.length, .c (.v (.bool (pcomma q i).ov))]]⟩), (1000001, ⟨true, 5, 1, bA (pcomma q i).out⟩), (1000002, ⟨false, 137, 1, [[.ref 1000000 1 0 0]]⟩), (96, ⟨false, 36, 5, [x.cells.map .c]⟩)] 160 ?_ ?_
   · refine VC.cond (by rfl) (by trivial) (fun hc2 => ?_) (fun hc2 => ?_)
     · have hi0 : 0 < i := by simp at hc2; omega
       rw [show pcomma q i = q.put [44] from if_pos hi0]
       refine walkG ?_
       refine walkLF (And.intro @bA_ren @prA_r2) [1000000, 1000001] (hcm) ?_
       refine walkGF (And.intro @bA_ren @prA_r2) ?_
       refine .normal ?_
       refine weakXF (And.intro @bA_len (And.intro @bA_sc (And.intro @prA_sc (And.intro @prA_ce (And.intro @prA_r2 (And.intro @bA_ren @len_cells)))))) ?_
       exact Nat.le_refl _
     · have hi0 : ¬ 0 < i := by simp at hc2; omega
       rw [show pcomma q i = q from if_neg hi0]
       refine walkG ?_
       refine .normal ?_
       refine weakXF (And.intro @bA_len (And.intro @bA_sc (And.intro @prA_sc (And.intro @prA_ce (And.intro @prA_r2 (And.intro @bA_ren @len_cells)))))) ?_
       exact Nat.le_refl _
   refine walkG ?_
   refine walkLF (And.intro @bA_ren @prA_r3) [1000000, 1000001, 1000002] (h3) ?_
   refine walkGF (And.intro @bA_ren (And.intro @prA_r3 (And.intro @len_cells (And.intro @take_cells @take_cellsC)))) ?_
   refine walkLF (And.intro @bA_ren (And.intro @prA_r2 @prA_r3)) [1000000, 1000001] (h4) ?_
   refine walkGF (And.intro @bA_ren (And.intro @prA_r2 (And.intro @prA_r3 hw))) ?_
   refine .next ⟨(i + 1, pTree (pkey none (pcomma q i) i) x), by simp only []; omega, hnx, hnok⟩ ?_ (by simp only []; omega)
   refine weakXF (And.intro @bA_len (And.intro @bA_sc (And.intro @prA_sc (And.intro @prA_ce (And.intro @prA_r2 (And.intro @prA_r3 @bA_ren)))))) ?_
   exact ⟨cI (by omega), Nat.le_refl _⟩
 · have hge : i = xs.length := by simp at hc; omega
   subst hge
   rw [List.drop_length, pKids] at hfin
   subst hfin
   have h5 := put_told q e hq (by omega)
   simp only [prB, bB] at h5
   refine walkG ?_
   refine walkLF (And.intro @bA_ren @prA_r2) [1000000, 1000001] (h5) ?_
   refine walkGF (And.intro @bA_ren (And.intro @prA_r2 @bA_len)) ?_
   exact retZF (And.intro @bA_ren (And.intro @prA_e3 @prA_r2)) Tryz.results151
theorem tree1O_told (p : PS) (hp : p.ok) (o e : List UInt8) (ho : o.length ≤ 10) (he : e.length ≤ 10) (k n : Int) (s : List UInt8) (ks : List (List UInt8)) (xs : List JT) (hxl : xs.length ≤ 1000000000) (hkl : ks.length = xs.length) (hks : ∀ y ∈ ks, y.length ≤ 1000000000)
  (hx : ∀ x ∈ xs, ∀ q : PS, q.ok → ToldM Tryz.prog 101 [.ref 1000000 1 0 0, x.av] [prB q.u q.out.length q.ov, bB q.out] [some (prB (pTree q x).u (pTree q x).out.length (pTree q x).ov), some (bB (pTree q x).out)] (.tup [])) :
  ToldM Tryz.prog 151 [.c (.v (.string (str o))), .c (.v (.string (str e))), .fn (.func 156) [] [.ref 1000002 1 0 0, .pp (JT.mk k n s ks xs).cells], .ref 1000002 1 0 0, .pp (JT.mk k n s ks xs).cells] [prB p.u p.out.length p.ov, bB p.out, boxB]
   [some (prB ((pKids (some ks) (p.put o) 0 xs).put e).u ((pKids (some ks) (p.put o) 0 xs).put e).out.length ((pKids (some ks) (p.put o) 0 xs).put e).ov), some (bB ((pKids (some ks) (p.put o) 0 xs).put e).out), some boxB] (.tup []) := by
 have h1 := put_told p o hp (by omega)
 have hok := PS.put_ok hp o
 generalize p.put o = p1 at h1 hok ⊢
 obtain ⟨F1, hF1⟩ : ∃ F1, F1 = pKids (some ks) p1 0 xs := ⟨_, rfl⟩
 rw [← hF1]
 simp only [prB, bB, boxB] at h1 ⊢
 refine VC.toldXF (And.intro @bA_len (And.intro @bA_sc (And.intro @prA_sc @prA_ce))) ent_151 [] Tryz.func151 rfl Tryz.ntmps151 fun hb hbL => ?_
 clear hb hbL
 refine walkGF (@cells_mk) ?_
 refine walkLF (And.intro @bA_ren @prA_r2) [1000000, 1000001] (h1) ?_
 refine walkGF (And.intro @cells_mk (And.intro @bA_ren (And.intro @prA_r2 @bA_len))) ?_
 refine VC.loop (ι := {q : Nat × PS // q.1 ≤ xs.length ∧ pKids (some ks) q.2 q.1 (xs.drop q.1) = F1 ∧ q.2.ok})
  (fun q => [(1, .c (.v (.string (str e)))), (2, .fn (.func 156) [] [.ref 1000002 1 0 0, .pp (JT.mk k n s ks xs).cells]), (3, .ref 1000002 1 0 0), (4, .pp (JT.mk k n s ks xs).cells), (14, .c (.sl 5 (xs.map JT.cells))), (15, .c (.v (.int .i64 (xs.length : Int)))), (16, .c (.v (.int .i64 (q.1.1 : Int))))])
  (fun q => [(1000000, ⟨false, 142, 3, [[prA q.1.2.u, .row 1000001 q.1.2.out.length, .c (.v (.bool q.1.2.ov))]]⟩), (1000001, ⟨true, 5, 1, bA q.1.2.out⟩), (1000002, ⟨false, 137, 1, [[.ref 1000000 1 0 0]]⟩)])
  64 (fun q => xs.length - q.1.1) ⟨(0, p1), Nat.zero_le _, by simp [hF1], hok⟩ ?_ ?_
 · refine weakXF (And.intro @bA_len (And.intro @bA_sc (And.intro @prA_sc (And.intro @prA_r2 @bA_ren)))) ?_
   simp [prA_ce, bA_sc]
 rintro ⟨⟨i, q⟩, hi, hfin, hq⟩
 simp only [] at hi hfin hq ⊢
 refine walkG ?_
 refine VC.cond (by rfl) (by trivial) (fun hc => ?_) (fun hc => ?_)
 · have hlt : i < xs.length := by simp at hc; omega
   obtain ⟨x, hxi⟩ : ∃ x, xs[i]? = some x := ⟨xs[i], List.getElem?_eq_getElem hlt⟩
   have hxc : (xs.map JT.cells)[i]? = some x.cells := by rw [List.getElem?_map, hxi]; rfl
   have hxm := List.mem_of_getElem? hxi
   have hpc : (pcomma q i).ok := pcomma_ok hq i
   have hw : IntKind.i64.wrap ((i : Int) + 1) = (i : Int) + 1 := wrap64_id (by omega) (by omega)
   obtain ⟨ke, hke⟩ : ∃ ke, ks[i]? = some ke := ⟨ks[i]'(by omega), List.getElem?_eq_getElem _⟩
   have h3 := key3_told (pcomma q i) (pcomma_ok hq i) i k n s ke ks xs hke (hks ke (List.mem_of_getElem? hke))
   have hpko := pkey_ok hpc (some ks) i
   have h4 := hx x hxm (pkey (some ks) (pcomma q i) i) hpko
   have hnx : pKids (some ks) (pTree (pkey (some ks) (pcomma q i) i) x) (i + 1) (xs.drop (i + 1)) = F1 := by
    rw [← hfin, List.drop_eq_getElem_cons hlt, pKids]
    rw [List.getElem?_eq_getElem hlt] at hxi
    rw [Option.some.inj hxi]
   have hnok := pTree_ok hpko x
   simp only [JT.av, prB, bB, boxB] at h3 h4
   refine walkGF (And.intro hxc (And.intro @len_cells (And.intro @take_cells @take_cellsC))) ?_
   have hcm := put_told q [44] hq (by decide)
   simp only [prB, bB, str] at hcm
   refine VC.meet [(1, .c (.v (.string (str e)))), (2, .fn (.func 156) [] [.ref 1000002 1 0 0, .pp (JT.mk k n s ks xs).cells]), (3, .ref 1000002 1 0 0), (4, .pp (JT.mk k n s ks xs).cells), (8, .c (.v (.int .i64 (i : Int)))), (9, .ref 96 1 0 0), (14, .c (.sl 5 (xs.map JT.cells))), (15, .c (.v (.int .i64 (xs.length : Int)))), (16, .c (.v (.int .i64 (i : Int))))]
    [(1000000, ⟨false, 142, 3, [[prA (pcomma q i).u, .row 1000001 (pcomma q i).out.length, .c (.v (.bool (pcomma q i).ov))]]⟩), (1000001, ⟨true, 5, 1, bA (pcomma q i).out⟩), (1000002, ⟨false, 137, 1, [[.ref 1000000 1 0 0]]⟩), (96, ⟨false, 36, 5, [x.cells.map .c]⟩)] 160 ?_ ?_
   · refine VC.cond (by rfl) (by trivial) (fun hc2 => ?_) (fun hc2 => ?_)
     · have hi0 : 0 < i := by simp at hc2; omega
       rw [show pcomma q i = q.put [44] from if_pos hi0]
       refine walkG ?_
       refine walkLF (And.intro @bA_ren @prA_r2) [1000000, 1000001] (hcm) ?_
       refine walkGF (And.intro @bA_ren @prA_r2) ?_
       refine .normal ?_
       refine weakXF (And.intro @bA_len (And.intro @bA_sc (And.intro @prA_sc (And.intro @prA_ce (And.intro @prA_r2 (And.intro @bA_ren @len_cells)))))) ?_
       exact Nat.le_refl _
     · have hi0 : ¬ 0 < i := by simp at hc2; omega
       rw [show pcomma q i = q from if_neg hi0]
       refine walkG ?_
       refine .normal ?_
       refine weakXF (And.intro @bA_len (And.intro @bA_sc (And.intro @prA_sc (And.intro @prA_ce (And.intro @prA_r2 (And.intro @bA_ren @len_cells)))))) ?_
       exact Nat.le_refl _
   refine walkG ?_
   refine walkLF (And.intro @bA_ren @prA_r3) [1000000, 1000001, 1000002] (h3) ?_
   refine walkGF (And.intro @bA_ren (And.intro @prA_r3 (And.intro @len_cells (And.intro @take_cells @take_cellsC)))) ?_
   refine walkLF (And.intro @bA_ren (And.intro @prA_r2 @prA_r3)) [1000000, 1000001] (h4) ?_
   refine walkGF (And.intro @bA_ren (And.intro @prA_r2 (And.intro @prA_r3 hw))) ?_
   refine .next ⟨(i + 1, pTree (pkey (some ks) (pcomma q i) i) x), by simp only []; omega, hnx, hnok⟩ ?_ (by simp only []; omega)
   refine weakXF (And.intro @bA_len (And.intro @bA_sc (And.intro @prA_sc (And.intro @prA_ce (And.intro @prA_r2 (And.intro @prA_r3 @bA_ren)))))) ?_
   exact ⟨cI (by omega), Nat.le_refl _⟩
 · have hge : i = xs.length := by simp at hc; omega
   subst hge
   rw [List.drop_length, pKids] at hfin
   subst hfin
   have h5 := put_told q e hq (by omega)
   simp only [prB, bB] at h5
   refine walkG ?_
   refine walkLF (And.intro @bA_ren @prA_r2) [1000000, 1000001] (h5) ?_
   refine walkGF (And.intro @bA_ren (And.intro @prA_r2 @bA_len)) ?_
   exact retZF (And.intro @bA_ren (And.intro @prA_e3 @prA_r2)) Tryz.results151

theorem jrights_mem {d : Nat} : ∀ {xs : List JT}, jrights d xs = true → ∀ x ∈ xs, jright d x = true
 | x :: xs, h, y, hy => by
   rw [jrights, Bool.and_eq_true] at h
   rcases List.mem_cons.1 hy with rfl | hy
   · exact h.1
   · exact jrights_mem h.2 y hy
theorem numb_len (n : Int) (h1 : -9223372036854775808 ≤ n) (h2 : n ≤ 9223372036854775807) : (mNumb n).length ≤ 21 := by
 have := digs_len 19 n.natAbs (by omega)
 unfold mNumb
 split <;> simp <;> omega
theorem tree_told : ∀ (m : Nat) (t : JT), SizeOf.sizeOf t ≤ m → t.sm 1000000000 → t.inr → ∀ d, jright d t = true → ∀ p : PS, p.ok →
  ToldM Tryz.prog 101 [.ref 1000000 1 0 0, t.av] [prB p.u p.out.length p.ov, bB p.out] [some (prB (pTree p t).u (pTree p t).out.length (pTree p t).ov), some (bB (pTree p t).out)] (.tup []) := by
 intro m
 induction m with
 | zero =>
   intro t ht
   cases t
   simp at ht
 | succ m ih =>
 intro t ht hsm hin d hr p hp
 cases t with
 | mk k n s ks xs =>
 have hx : ∀ x ∈ xs, ∀ q : PS, q.ok → ToldM Tryz.prog 101 [.ref 1000000 1 0 0, x.av] [prB q.u q.out.length q.ov, bB q.out] [some (prB (pTree q x).u (pTree q x).out.length (pTree q x).ov), some (bB (pTree q x).out)] (.tup []) := by
  intro x hxm
  rw [jright] at hr
  simp only [Bool.and_eq_true] at hr
  exact ih x (by have := List.sizeOf_lt_of_mem hxm; simp at ht; omega) (smL_mem hsm.2.2.2.2 x hxm) (inrL_mem hin.2 x hxm) (d + 1) (jrights_mem hr.2 x hxm)
 obtain ⟨hsl, hkl, hks, hxl, _⟩ := hsm
 obtain ⟨⟨hn1, hn2⟩, _⟩ := hin
 have hky : k = 6 → ks.length = xs.length := by
  intro h6
  rw [jright] at hr
  simp only [Bool.and_eq_true] at hr
  have := hr.1.1.2
  rw [jkeyed, if_neg (by omega)] at this
  simp at this
  exact this.1
 have hk16 : 1 ≤ k ∧ k ≤ 6 := by
  rw [jright] at hr
  simp only [Bool.and_eq_true] at hr
  have := hr.1.1.1
  rw [jbare] at this
  repeat' split at this
  all_goals first | omega | (simp at this)
 clear ih ht hr
 obtain ⟨F, hF⟩ : ∃ F, F = pTree p (.mk k n s ks xs) := ⟨_, rfl⟩
 rw [← hF]
 rw [pTree] at hF
 simp only [JT.av, prB, bB]
 refine VC.toldXF (And.intro @bA_len (And.intro @bA_sc (And.intro @prA_sc (And.intro @prA_ce @cells_mk)))) ent_101 [] Tryz.func101 rfl Tryz.ntmps101 fun hb hbL => ?_
 clear hb hbL
 refine walkGF (@cells_mk) ?_
 refine VC.cond (by rfl) (by trivial) (fun h1 => ?_) (fun h1 => ?_)
 · have hk : k = 1 := by simpa using h1
   rw [if_pos hk] at hF
   subst hF
   have hP := put_told p [110, 117, 108, 108] hp (by decide)
   simp only [prB, bB, str] at hP
   refine walkGF (@cells_mk) ?_
   refine walkLF (And.intro @bA_ren @prA_r2) [1000000, 1000001] (hP) ?_
   refine walkGF (And.intro @bA_ren (And.intro @prA_r2 @bA_len)) ?_
   exact retZF (And.intro @bA_ren (And.intro @prA_e2 @prA_r2)) Tryz.results101
 have hk1 : ¬ k = 1 := by simpa using h1
 rw [if_neg hk1] at hF
 refine walkGF (@cells_mk) ?_
 refine VC.cond (by rfl) (by trivial) (fun h2 => ?_) (fun h2 => ?_)
 · have hk : k = 2 := by simpa using h2
   rw [if_pos hk] at hF
   refine walkGF (@cells_mk) ?_
   refine VC.cond (by rfl) (by trivial) (fun h3 => ?_) (fun h3 => ?_)
   · have hn : n = 1 := by simpa using h3
     rw [if_pos hn] at hF
     subst hF
     have hP := put_told p [116, 114, 117, 101] hp (by decide)
     simp only [prB, bB, str] at hP
     refine walkGF (@cells_mk) ?_
     refine walkLF (And.intro @bA_ren @prA_r2) [1000000, 1000001] (hP) ?_
     refine walkGF (And.intro @bA_ren (And.intro @prA_r2 @bA_len)) ?_
     exact retZF (And.intro @bA_ren (And.intro @prA_e2 @prA_r2)) Tryz.results101
   · have hn : ¬ n = 1 := by simpa using h3
     rw [if_neg hn] at hF
     subst hF
     have hP := put_told p [102, 97, 108, 115, 101] hp (by decide)
     simp only [prB, bB, str] at hP
     refine walkGF (@cells_mk) ?_
     refine walkLF (And.intro @bA_ren @prA_r2) [1000000, 1000001] (hP) ?_
     refine walkGF (And.intro @bA_ren (And.intro @prA_r2 @bA_len)) ?_
     exact retZF (And.intro @bA_ren (And.intro @prA_e2 @prA_r2)) Tryz.results101
 have hk2 : ¬ k = 2 := by simpa using h2
 rw [if_neg hk2] at hF
 refine walkGF (@cells_mk) ?_
 refine VC.cond (by rfl) (by trivial) (fun h3 => ?_) (fun h3 => ?_)
 · have hk : k = 3 := by simpa using h3
   rw [if_pos hk] at hF
   have hN := number_told [] n (by simp) hn1 hn2
   have hnl := numb_len n hn1 hn2
   generalize mNumb n = M at hF hN hnl
   subst hF
   have hP := put_told p M hp (by omega)
   simp only [prB, bB, str, List.nil_append, List.length_nil, bA_nil] at hP hN
   have hN : ToldM Tryz.prog _ _ ([] ++ [⟨true, 5, 1, []⟩]) _ _ := hN
   refine walkGF (@cells_mk) ?_
   ((refine AO.step fun K hK => ?_; simp only [go_sem, Int.reduceBEq, Int.reduceLE, Int.reduceLT, Int.reduceNeg, Nat.reduceAdd, Nat.reduceEqDiff, Nat.reduceLT, Nat.reduceLeDiff, Nat.reduceMul, Nat.reduceSub, reduceCtorEq, ↓reduceIte, bA_nil, bA_ren]; (first | refine gsel_go ?_ | skip)); (first | refine .inr (.inr (.inr ⟨?vy1, [], ?vt1, ?vz1, ?va1, ?vl1, ?vm1, ?cond1, ?cont1⟩)) | refine .inr (.inr (.inr (.inl ⟨?vy1, [], ?vt1, ?vz1, ?va1, ?vl1, ?vm1, ?cond1, ?cont1⟩)))); (case cond1 => ((repeat' apply And.intro) <;> (try ((with_reducible show ToldM _ _ _ _ _ _); exact hN))); (all_goals first | trivial | (simp only [bA_nil, bA_ren, go_sem, simprocAttr]; done) | (simp; done) | rfl)); (first | refine hK _ _ _ ?_ | (simp only [bA_nil, bA_ren, go_sem, simprocAttr]; first | refine hK _ _ _ ?_ | refine ⟨rfl, hK _ _ _ ?_⟩)); clear hK K)
   refine walkGF (And.intro @bA_len @bA_ren) ?_
   (refine AO.step fun K hK => ?_; simp only [go_sem, Int.reduceBEq, Int.reduceLE, Int.reduceLT, Int.reduceNeg, Nat.reduceAdd, Nat.reduceEqDiff, Nat.reduceLT, Nat.reduceLeDiff, Nat.reduceMul, Nat.reduceSub, reduceCtorEq, ↓reduceIte, bA_len, bA_ren]; (first | refine gsel_go ?_ | skip))
   refine ⟨bytePV M, ⟨bA_pv M, bytePV_ok M⟩, hK _ _ _ ?_⟩; clear hK K
   refine walkGF (@bytesOf_pv) ?_
   refine walkLF (And.intro @bytesOf_pv (And.intro @bA_ren @prA_r2)) [1000000, 1000001] (hP) ?_
   refine walkGF (And.intro @bA_ren (And.intro @prA_r2 @bA_len)) ?_
   exact retZF (And.intro @bA_ren (And.intro @prA_e2 @prA_r2)) Tryz.results101
 have hk3 : ¬ k = 3 := by simpa using h3
 rw [if_neg hk3] at hF
 refine walkGF (@cells_mk) ?_
 refine VC.cond (by rfl) (by trivial) (fun h4 => ?_) (fun h4 => ?_)
 · have hk : k = 4 := by simpa using h4
   rw [if_pos hk] at hF
   have hN := quote_told [] s (by simp) hsl
   have hnl := quote_len s
   generalize mQuote s = M at hF hN hnl
   subst hF
   have hP := put_told p M hp (by omega)
   simp only [prB, bB, List.nil_append, List.length_nil, bA_nil] at hP hN
   have hN : ToldM Tryz.prog _ _ ([] ++ [⟨true, 5, 1, []⟩]) _ _ := hN
   refine walkGF (@cells_mk) ?_
   ((refine AO.step fun K hK => ?_; simp only [go_sem, Int.reduceBEq, Int.reduceLE, Int.reduceLT, Int.reduceNeg, Nat.reduceAdd, Nat.reduceEqDiff, Nat.reduceLT, Nat.reduceLeDiff, Nat.reduceMul, Nat.reduceSub, reduceCtorEq, ↓reduceIte, bA_nil, bA_ren]; (first | refine gsel_go ?_ | skip)); (first | refine .inr (.inr (.inr ⟨?vy2, [], ?vt2, ?vz2, ?va2, ?vl2, ?vm2, ?cond2, ?cont2⟩)) | refine .inr (.inr (.inr (.inl ⟨?vy2, [], ?vt2, ?vz2, ?va2, ?vl2, ?vm2, ?cond2, ?cont2⟩)))); (case cond2 => ((repeat' apply And.intro) <;> (try ((with_reducible show ToldM _ _ _ _ _ _); exact hN))); (all_goals first | trivial | (simp only [bA_nil, bA_ren, go_sem, simprocAttr]; done) | (simp; done) | rfl)); (first | refine hK _ _ _ ?_ | (simp only [bA_nil, bA_ren, go_sem, simprocAttr]; first | refine hK _ _ _ ?_ | refine ⟨rfl, hK _ _ _ ?_⟩)); clear hK K)
   refine walkGF (And.intro @bA_len @bA_ren) ?_
   (refine AO.step fun K hK => ?_; simp only [go_sem, Int.reduceBEq, Int.reduceLE, Int.reduceLT, Int.reduceNeg, Nat.reduceAdd, Nat.reduceEqDiff, Nat.reduceLT, Nat.reduceLeDiff, Nat.reduceMul, Nat.reduceSub, reduceCtorEq, ↓reduceIte, bA_len, bA_ren]; (first | refine gsel_go ?_ | skip))
   refine ⟨bytePV M, ⟨bA_pv M, bytePV_ok M⟩, hK _ _ _ ?_⟩; clear hK K
   refine walkGF (@bytesOf_pv) ?_
   refine walkLF (And.intro @bytesOf_pv (And.intro @bA_ren (And.intro @prA_r2 @str_eq))) [1000000, 1000001] (hP) ?_
   refine walkGF (And.intro @bA_ren (And.intro @prA_r2 @bA_len)) ?_
   exact retZF (And.intro @bA_ren (And.intro @prA_e2 @prA_r2)) Tryz.results101
 have hk4 : ¬ k = 4 := by simpa using h4
 rw [if_neg hk4] at hF
 refine walkGF (@cells_mk) ?_
 refine VC.cond (by rfl) (by trivial) (fun h5 => ?_) (fun h5 => ?_)
 · have hk : k = 5 := by simpa using h5
   rw [if_pos hk] at hF
   subst hF
   have hT := tree1L_told p hp [91] [93] (by decide) (by decide) k n s ks xs hxl hx
   simp only [prB, bB, boxB, str] at hT
   refine VC.frz [8] [(4, .fn (.func 151) [] [.ref 0 1 0 0, .pp (JT.mk k n s ks xs).cells])] [(0, ⟨false, 137, 1, [[.ref 1000000 1 0 0]]⟩), (1000000, ⟨false, 142, 3, [[prA p.u, .row 1000001 p.out.length, .c (.v (.bool p.ov))]]⟩), (1000001, ⟨true, 5, 1, bA p.out⟩)] 600 ?_ ?_
   · simp only [cells_mk, bA_sc, prA_sc, prA_ce, bA_len, WeakF, used_is, sc_any, sc_c, sc_pp, sc_ref, sc_row, sc_agg, sc_fn, ScL, some_imp, List.forall_mem_map, go_sem, Int.reduceBEq, Int.reduceLE, Int.reduceLT, Int.reduceNeg, Nat.reduceAdd, Nat.reduceEqDiff, Nat.reduceLT, Nat.reduceLeDiff, Nat.reduceMul, Nat.reduceSub, reduceCtorEq, ↓reduceIte]
     refine ⟨FV.fnL .nil (.cons (.same _) (.cons (.ref (es := [.v (.int .i64 k), .v (.int .i64 n), .v (.string (str s)), .sl 5 (xs.map JT.cells), .sl 1 (ks.map sPV)]) (by simp) rfl rfl rfl rfl) .nil)), ⟨.same _, .same _, .same _⟩, Nat.le_refl _⟩
   refine walkG ?_
   refine walkLF (And.intro @bA_ren (And.intro @prA_r3 @prA_r2)) [1000000, 1000001, 0] (hT) ?_
   refine walkGF (And.intro @bA_ren (And.intro @prA_r3 (And.intro @prA_r2 @bA_len))) ?_
   exact retZF (And.intro @bA_ren (And.intro @prA_e2 (And.intro @prA_r2 @prA_r3))) Tryz.results101
 have hk5 : ¬ k = 5 := by simpa using h5
 rw [if_neg hk5] at hF
 subst hF
 have hT := tree1O_told p hp [123] [125] (by decide) (by decide) k n s ks xs hxl (hky (by omega)) hks hx
 simp only [prB, bB, boxB, str] at hT
 refine VC.frz [8] [(2, .ref 0 1 0 0), (3, .pp (JT.mk k n s ks xs).cells), (4, .fn (.func 151) [] [.ref 0 1 0 0, .pp (JT.mk k n s ks xs).cells])] [(0, ⟨false, 137, 1, [[.ref 1000000 1 0 0]]⟩), (1000000, ⟨false, 142, 3, [[prA p.u, .row 1000001 p.out.length, .c (.v (.bool p.ov))]]⟩), (1000001, ⟨true, 5, 1, bA p.out⟩)] 600 ?_ ?_
 · simp only [cells_mk, bA_sc, prA_sc, prA_ce, bA_len, WeakF, used_is, sc_any, sc_c, sc_pp, sc_ref, sc_row, sc_agg, sc_fn, ScL, some_imp, List.forall_mem_map, go_sem, Int.reduceBEq, Int.reduceLE, Int.reduceLT, Int.reduceNeg, Nat.reduceAdd, Nat.reduceEqDiff, Nat.reduceLT, Nat.reduceLeDiff, Nat.reduceMul, Nat.reduceSub, reduceCtorEq, ↓reduceIte]
   refine ⟨⟨.same _, .ref (es := [.v (.int .i64 k), .v (.int .i64 n), .v (.string (str s)), .sl 5 (xs.map JT.cells), .sl 1 (ks.map sPV)]) (by simp) rfl rfl rfl rfl, FV.fnL .nil (.cons (.same _) (.cons (.ref (es := [.v (.int .i64 k), .v (.int .i64 n), .v (.string (str s)), .sl 5 (xs.map JT.cells), .sl 1 (ks.map sPV)]) (by simp) rfl rfl rfl rfl) .nil))⟩, ⟨.same _, .same _, .same _⟩, Nat.le_refl _⟩
 refine walkG ?_
 refine walkLF (And.intro @bA_ren (And.intro @prA_r3 @prA_r2)) [1000000, 1000001, 0] (hT) ?_
 refine walkGF (And.intro @bA_ren (And.intro @prA_r3 (And.intro @prA_r2 @bA_len))) ?_
 exact retZF (And.intro @bA_ren (And.intro @prA_e2 (And.intro @prA_r2 @prA_r3))) Tryz.results101
section
section
variable {P : Program} {N : Nat} {Q : Exit → ASt → Prop}
theorem VC.nilH {c : Code} {t : Nat → AV} {h : Nat → Option Blkd} {n : Nat} (j o : Nat) (T : TypeId) (z : Nat) (B : Blkd) (e : List AV) (hB : h j = some B) (hrow : B.row = false) (he : B.elems = [e]) (ho : e[o]? = some (.c (.v (.slice none 0 0)))) (hn : Nat.ble (n + 1) L0 = true)
  (hv : VC P N c ⟨t, upd (upd h n (some ⟨true, T, z, []⟩)) j (some ⟨false, B.T, B.z, [e.set o (.row n 0)]⟩), n + 8⟩ Q) : VC P N c ⟨t, h, n⟩ Q := ⟨fun C a W r => by
 obtain ⟨ro, φ, r⟩ := r
 have hn := Nat.le_of_ble_eq_true hn
 have hnu : ¬ Used n n := fun hu => by unfold Used at hu; omega
 have hjn : j ≠ n := fun e => hnu (e ▸ (r.scH j B hB).1)
 have r2 : Rel C (fun j => Used n j ∨ j = n) N t (upd h n (some ⟨true, T, z, []⟩)) ro (upd φ n (.slice none 0 0)) a W :=
  r.block (W' := W) (Keeps.refl _ _) (fun b hb => by simp [blkOf] at hb) (.inr hnu)
   ⟨fun i e he => by simp at he, fun e he => by simp at he, [], ⟨rfl, fun j x v hx => by simp at hx⟩, by rw [if_pos rfl, upd_same]; exact World.ownsRow_nil W 0 T z⟩ (fun e he => by simp at he)
 have r3 := r2.take (used' := Used (n + 8)) fun j hj => by
  unfold Used at hj ⊢
  omega
 have hB3 : upd h n (some ⟨true, T, z, []⟩) j = some B := by rw [upd_ne _ _ hjn]; exact hB
 obtain ⟨b1, b2, vs, b3, b4⟩ := r3.hp j B hB3
 have helen : e.length = B.z := b1 0 e (by rw [he]; rfl)
 have hol := (List.getElem?_eq_some_iff.1 ho).1
 rw [he, List.flatten_cons, List.flatten_nil, List.append_nil] at b3
 have hg : ∀ k B', Used (n + 8) k → upd (upd h n (some ⟨true, T, z, []⟩)) j (some ⟨false, B.T, B.z, [e.set o (.row n 0)]⟩) k = some B' → ∃ B0, upd h n (some ⟨true, T, z, []⟩) k = some B0 ∧ (B0.len < B'.len ∨ (B0.len = B'.len ∧ B0.z = B'.z ∧ upd (upd φ n (.slice none 0 0)) j (upd φ n (.slice none 0 0) j) k = upd φ n (.slice none 0 0) k)) := by
  intro k B' hk hB'
  by_cases hkj : k = j
  · subst hkj
    rw [upd_same] at hB'
    obtain rfl := Option.some.inj hB'
    exact ⟨B, hB3, .inr ⟨by unfold Blkd.len; rw [he]; rfl, rfl, by rw [upd_same]⟩⟩
  · rw [upd_ne _ _ hkj] at hB'
    exact ⟨B', hB', .inr ⟨rfl, rfl, upd_ne _ _ hkj⟩⟩
 have hnew : ∀ (i : Nat) (x : AV), (e.set o (.row n 0))[i]? = some x → (i = o ∧ x = .row n 0) ∨ (i ≠ o ∧ e[i]? = some x) := by
  intro i x hx
  by_cases hio : i = o
  · subst hio
    rw [List.getElem?_set_self hol] at hx
    exact .inl ⟨rfl, (Option.some.inj hx).symm⟩
  · rw [List.getElem?_set_ne (fun e => hio e.symm)] at hx
    exact .inr ⟨hio, hx⟩
 have hrow0 : ∀ v : Value, v = .slice none 0 0 → Rep W ro (upd (upd φ n (.slice none 0 0)) j (upd φ n (.slice none 0 0) j)) (upd (upd h n (some ⟨true, T, z, []⟩)) j (some ⟨false, B.T, B.z, [e.set o (.row n 0)]⟩)) (.row n 0) v := by
  rintro v rfl
  refine .row rfl fun B' hB' _ => ?_
  rw [upd_ne _ _ (fun e => hjn e.symm), upd_same]
 have hscn : Sc (fun k => Used (n + 8) k ∨ k = j) (upd (upd h n (some ⟨true, T, z, []⟩)) j (some ⟨false, B.T, B.z, [e.set o (.row n 0)]⟩)) (.row n 0) := by
  refine .row (.inl (by unfold Used; omega)) fun B' hB' => Nat.zero_le _
 have r4 := r3.block (W' := W) (ℓ := j) (B := ⟨false, B.T, B.z, [e.set o (.row n 0)]⟩) (v := upd φ n (.slice none 0 0) j) (Keeps.refl _ _) (fun b hb => .inr ⟨B, hB3, hb⟩)
  (.inl ⟨B, hB3, .inr ⟨by unfold Blkd.len; rw [he]; rfl, rfl, rfl⟩⟩)
  ⟨fun i e' he' => by
    match i, he' with
    | 0, he' => obtain rfl := Option.some.inj he'; simpa using helen,
   fun e' he' x hx => by
    obtain rfl := List.mem_singleton.1 he'
    obtain ⟨i, hi, hxi⟩ := List.getElem_of_mem hx
    rcases hnew i x (by rw [List.getElem?_eq_getElem hi, hxi]) with ⟨_, rfl⟩ | ⟨_, h5⟩
    · rfl
    · exact b2 e (by rw [he]; exact List.mem_singleton.2 rfl) x (List.mem_of_getElem? h5),
   vs, by
    refine ⟨by simpa using b3.1, fun i x v hx hvv => ?_⟩
    simp only [List.flatten_cons, List.flatten_nil, List.append_nil] at hx
    rcases hnew i x hx with ⟨rfl, rfl⟩ | ⟨_, h5⟩
    · exact hrow0 v (rep_prim (b3.2 i _ v ho hvv))
    · exact (b3.2 i x v h5 hvv).map ((r3.scH j B hB3).2 e (by rw [he]; exact List.mem_singleton.2 rfl) x (List.mem_of_getElem? h5)) (fun _ _ => rfl) (fun _ h => h) hg, by
    rw [if_neg (by simp)]
    rw [if_neg (by simp [hrow])] at b4
    rw [upd_same]
    exact b4⟩
  (fun e' he' x hx => by
   obtain rfl := List.mem_singleton.1 he'
   obtain ⟨i, hi, hxi⟩ := List.getElem_of_mem hx
   rcases hnew i x (by rw [List.getElem?_eq_getElem hi, hxi]) with ⟨_, rfl⟩ | ⟨_, h5⟩
   · exact hscn
   · refine ((r3.scH j B hB3).2 e (by rw [he]; exact List.mem_singleton.2 rfl) x (List.mem_of_getElem? h5)).map (fun k hk => .inl hk) fun k B' hk hB' => ?_
     obtain ⟨B0, h6, h7⟩ := hg k B' hk hB'
     exact ⟨B0, h6, by rcases h7 with h7 | h7 <;> omega⟩)
 have r5 := r4.take (used' := Used (n + 8)) fun k hk => by
  rcases hk with hk | rfl
  · exact hk
  · have := (r.scH k B hB).1
    unfold Used at this ⊢
    simp only [] at this
    omega
 exact hv.out C a W ⟨ro, _, r5⟩⟩
end
end

def PS0 : PS := ⟨false, [], false⟩
def mPrint (t : JT) : List UInt8 × Int := if jR t = true then (if (pTree PS0 t).ov = true then ([], 3) else ((pTree PS0 t).out, 0)) else ([], 2)
theorem put_out1 (p : PS) (s : List UInt8) (hs : s ≠ []) : (p.put s).ov = true ∨ (p.put s).out ≠ [] := by
 unfold PS.put
 split
 · exact .inl rfl
 · refine .inr ?_
   simp [hs]
theorem pTree_out (p : PS) (t : JT) : (pTree p t).ov = true ∨ (pTree p t).out ≠ [] := by
 cases t with
 | mk k n s ks xs =>
 rw [pTree]
 have hnn : mNumb n ≠ [] := by
  unfold mNumb
  rw [digs]
  split <;> split <;> simp
 have hqq : mQuote s ≠ [] := by unfold mQuote; simp
 repeat' split
 all_goals exact put_out1 _ _ (by first | exact hnn | exact hqq | simp)
def prX (a : Nat) (u : Bool) : AV := if u = true then .ref a 1 0 0 else .c (.v (.pointer none))
theorem prA_rho (u : Bool) (a : Nat) (l : List Nat) (n : Nat) : (prA u).ren (rho (a :: l) n) = prX a u := by cases u <;> rfl
theorem prX_ce (a : Nat) (u : Bool) : (prX a u).cellish = true := by cases u <;> rfl
theorem print_told (t : JT) (ht : t.sm 1000000000) (hi : t.inr) : Told Tryz.prog 55 [t.av] (.tup [.c (.sl 1 (bytePV (mPrint t).1)), .c (.v (.int .i64 (mPrint t).2))]) := by
 have hR := jRight_told t (sm_le (by omega) t ht)
 have hT := fun (h : jR t = true) => tree_told _ t (Nat.le_refl _) ht hi 0 h PS0 (by unfold PS.ok PS0; simp)
 have hok := pTree_ok (p := PS0) (by unfold PS.ok PS0; simp) t
 have hout := pTree_out PS0 t
 obtain ⟨M, hM⟩ : ∃ M, M = mPrint t := ⟨_, rfl⟩
 rw [← hM]
 unfold mPrint at hM
 generalize pTree PS0 t = F at hT hok hM hout
 have hS := fun (h : F.out ≠ []) => bstring_told F.u F.out F.ov h
 have hp0 : prA false = .c (.v (.pointer none)) := rfl
 simp only [PS0, List.length_nil, prB, bB, bA_nil, hp0, JT.av] at hT hS
 refine VC.told ent_55 Tryz.func55 rfl Tryz.ntmps55 (by simp) (by simp [AV.pureB, AV.pureL, JT.av, pureL_c]) (by simp [AV.pureB, AV.pureL]) fun hb => ?_
 clear hb
 refine walkGF (And.intro @JT.av_eq (And.intro @len_cells (And.intro @take_cells @take_cellsC))) ?_
 refine walkCF (And.intro @JT.av_eq (And.intro @len_cells (And.intro @take_cells (And.intro @take_cellsC @pureL_c)))) (hR) ?_
 refine walkG ?_
 refine VC.cond (by rfl) (by trivial) (fun hc => ?_) (fun hc => ?_)
 · have hr : ¬ jR t = true := by simpa using hc
   rw [if_neg hr] at hM
   subst hM
   refine walkG ?_
   refine retX Tryz.results55 ?_
   exact ⟨.nil _, .c _⟩
 · have hr : jR t = true := by simpa using hc
   rw [if_pos hr] at hM
   replace hT := hT hr
   refine VC.skip ?_; refine SQ.normal ?_
   (refine VC.seq ?_; (first | refine VC.region (by rfl) (by rfl) ?_ | refine VC.draw mixP (by rfl) (by rfl) ?_); (repeat (refine AO.step fun K hK => ?_; simp only [go_sem, Int.reduceBEq, Int.reduceLE, Int.reduceLT, Int.reduceNeg, Nat.reduceAdd, Nat.reduceEqDiff, Nat.reduceLT, Nat.reduceLeDiff, Nat.reduceMul, Nat.reduceSub, reduceCtorEq, ↓reduceIte]; (first | refine gsel_skip ?_ | refine gsel_go ?_ | skip); (first | refine hK _ _ _ ?_ | refine ⟨by first | omega | exact ⟨_, rfl, rfl⟩ | exact fun _ => ⟨_, rfl, rfl⟩ | (intro h; simp only [h, true_and]; omega) | (clear hK; intro h; simp_all <;> omega), hK _ _ _ ?_⟩); clear hK K)); refine AO.nil ?_; first | refine SQ.normal ?_ | refine ⟨okd_of (by kernel_rfl), SQ.normal ?_⟩)
   refine VC.nilH 56 1 5 1 ⟨false, 142, 3, [[.c (.v (.pointer none)), .c (.v (.slice none 0 0)), .c (.v (.bool false))]]⟩ [.c (.v (.pointer none)), .c (.v (.slice none 0 0)), .c (.v (.bool false))] rfl rfl rfl rfl (by rfl) ?_
   refine walkGF (And.intro @JT.av_eq (And.intro @len_cells (And.intro @take_cells (And.intro @take_cellsC @prA_rho)))) ?_
   refine walkLF (And.intro @JT.av_eq (And.intro @len_cells (And.intro @take_cells (And.intro @take_cellsC (And.intro @bA_ren @prA_rho))))) [56, 72] (hT) ?_
   refine walkGF (And.intro @bA_ren (And.intro @prA_rho (And.intro @prX_ce @bA_len))) ?_
   refine VC.cond (by rfl) (by trivial) (fun ho => ?_) (fun ho => ?_)
   · rw [if_pos ho] at hM
     subst hM
     refine walkG ?_
     refine retX Tryz.results55 ?_
     exact ⟨.nil _, .c _⟩
   · have ho' : ¬ F.ov = true := by simp [ho]
     rw [if_neg ho'] at hM
     subst hM
     have hne : F.out ≠ [] := hout.resolve_left ho'
     replace hS := hS hne
     have hol : F.out.length ≤ 20000 := hok
     have hbs : (bstr F.out).size = F.out.length := bsz F.out
     have hbl : (bstr F.out).data.toList = F.out := by simp [bstr]
     refine walkGF (And.intro @bA_ren (And.intro @prA_rho (And.intro @prX_ce @bA_len))) ?_
     refine walkLF (And.intro @bA_ren (And.intro @prA_rho @prX_ce)) [56, 72] (hS) ?_
     refine walkGF (And.intro hbs hbl) ?_
     refine retX Tryz.results55 ?_
     exact ⟨.c _, .c _⟩

def tkey (ko : Option (List (List UInt8))) (i : Nat) : List UInt8 := match ko with | none => [] | some ks => mQuote ((ks[i]?).getD []) ++ [58]
mutual
def tText : JT → List UInt8
 | .mk k n s ks xs => if k = 1 then [110, 117, 108, 108] else if k = 2 then (if n = 1 then [116, 114, 117, 101] else [102, 97, 108, 115, 101]) else if k = 3 then mNumb n else if k = 4 then mQuote s
   else if k = 5 then [91] ++ tKids none 0 xs ++ [93] else [123] ++ tKids (some ks) 0 xs ++ [125]
def tKids (ko : Option (List (List UInt8))) (i : Nat) : List JT → List UInt8
 | [] => []
 | x :: xs => (if 0 < i then [44] else []) ++ (tkey ko i ++ (tText x ++ tKids ko (i + 1) xs))
end
def Puts (p : PS) (T : List UInt8) (q : PS) : Prop := (p.ov = true → q.ov = true) ∧ (p.ov = false → p.out.length ≤ 20000 → if p.out.length + T.length ≤ 20000 then q.ov = false ∧ q.out = p.out ++ T else q.ov = true)
theorem Puts.put (p : PS) (s : List UInt8) : Puts p s (p.put s) := by
 refine ⟨fun h => ?_, fun h hl => ?_⟩
 · unfold PS.put; rw [if_pos (.inl h)]
 · by_cases h2 : p.out.length + s.length ≤ 20000
   · rw [if_pos h2]
     unfold PS.put
     rw [if_neg (by rw [h]; simp; omega)]
     exact ⟨rfl, rfl⟩
   · rw [if_neg h2]
     unfold PS.put
     rw [if_pos (.inr (by omega))]
theorem Puts.trans {p q r : PS} {T U : List UInt8} (h1 : Puts p T q) (h2 : Puts q U r) : Puts p (T ++ U) r := by
 refine ⟨fun h => h2.1 (h1.1 h), fun h hl => ?_⟩
 have h3 := h1.2 h hl
 by_cases hT : p.out.length + T.length ≤ 20000
 · rw [if_pos hT] at h3
   have h4 := h2.2 h3.1 (by rw [h3.2, List.length_append]; exact hT)
   rw [h3.2, List.length_append] at h4
   by_cases hU : p.out.length + (T ++ U).length ≤ 20000
   · rw [if_pos hU]
     rw [List.length_append] at hU
     rw [if_pos (by omega)] at h4
     exact ⟨h4.1, by rw [h4.2, List.append_assoc]⟩
   · rw [if_neg hU]
     rw [List.length_append] at hU
     rw [if_neg (by omega)] at h4
     exact h4
 · rw [if_neg hT] at h3
   rw [if_neg (by rw [List.length_append]; omega)]
   exact h2.1 h3
theorem Puts.nil (p : PS) : Puts p [] p := ⟨fun h => h, fun h hl => by rw [if_pos (by simpa using hl)]; exact ⟨h, by simp⟩⟩
theorem puts_comma (p : PS) (i : Nat) : Puts p (if 0 < i then [44] else []) (pcomma p i) := by
 unfold pcomma
 split
 · exact Puts.put _ _
 · exact Puts.nil _
theorem puts_key (ko : Option (List (List UInt8))) (p : PS) (i : Nat) : Puts p (tkey ko i) (pkey ko p i) := by
 cases ko with
 | none => exact Puts.nil _
 | some ks => exact Puts.put _ _
mutual
theorem puts_tree (p : PS) : ∀ t : JT, Puts p (tText t) (pTree p t)
 | .mk k n s ks xs => by
   rw [tText, pTree]
   repeat' split
   all_goals first
    | exact Puts.put _ _
    | exact ((Puts.put _ _).trans (puts_kids none _ 0 xs)).trans (Puts.put _ _)
    | exact ((Puts.put _ _).trans (puts_kids (some ks) _ 0 xs)).trans (Puts.put _ _)
theorem puts_kids (ko : Option (List (List UInt8))) (p : PS) (i : Nat) : ∀ xs : List JT, Puts p (tKids ko i xs) (pKids ko p i xs)
 | [] => by rw [tKids, pKids]; exact Puts.nil _
 | x :: xs => by
   rw [tKids, pKids]
   exact (puts_comma p i).trans ((puts_key ko _ i).trans ((puts_tree _ x).trans (puts_kids ko _ (i + 1) xs)))
end
theorem print_text (t : JT) : mPrint t = if jR t = true then (if (tText t).length ≤ 20000 then (tText t, 0) else ([], 3)) else ([], 2) := by
 unfold mPrint
 by_cases hr : jR t = true
 · rw [if_pos hr, if_pos hr]
   have h := (puts_tree PS0 t).2 rfl (by simp [PS0])
   simp only [PS0, List.length_nil, Nat.zero_add, List.nil_append] at h
   by_cases hl : (tText t).length ≤ 20000
   · rw [if_pos hl] at h ⊢
     have h1 : ¬ (pTree PS0 t).ov = true := by
      rw [show (pTree PS0 t).ov = false from h.1]; simp
     rw [if_neg h1]
     rw [show (pTree PS0 t).out = tText t from h.2]
   · rw [if_neg hl] at h ⊢
     rw [if_pos (show (pTree PS0 t).ov = true from h)]
 · rw [if_neg hr, if_neg hr]

/-! Where a kid stands: by how many nodes were met. -/
def nmAt (ns : List NT) (k : Nat) : List UInt8 := match ns[k]? with | some n => n.name | none => []
def plK (F : Nat → Nat → Nat) : List Int → Nat → Nat
 | [], p => p
 | k :: ks, p => plK F ks (F k.toNat p)
def plN (ns : List NT) : Nat → Nat → Nat → Nat
 | 0 => fun k p => p
 | d + 1 => fun k p => if k < p then p else match ns[k]? with
   | none => p
   | some n => plK (plN ns d) (kidsN n) (p + 1)
def KidAt (ns : List NT) (d : Nat) (k : Int) (p : Nat) : Prop := 0 ≤ k ∧ ((k.toNat = p ∧ (walkM ns d p).1 = true) ∨ (k.toNat < p ∧ namedK (kindAt ns k.toNat) = true))
theorem plN_met (ns : List NT) (d k p : Nat) (h : k < p) : plN ns d k p = p := by
 cases d with
 | zero => rfl
 | succ d => rw [plN]; simp only []; rw [if_pos h]
theorem plN_new (ns : List NT) (d p : Nat) (n : NT) (h : ns[p]? = some n) : plN ns (d + 1) p p = plK (plN ns d) (kidsN n) (p + 1) := by
 rw [plN]
 simp only []
 rw [if_neg (by omega), h]
theorem walkK_stp {ns : List NT} {d : Nat} (hd : ∀ p, (walkM ns d p).1 = true → plN ns d p p = (walkM ns d p).2) {k : Int} {ks : List Int} {p q : Nat} (h : walkK ns (walkM ns d) (k :: ks) p = (true, q)) :
  KidAt ns d k p ∧ walkK ns (walkM ns d) ks (plN ns d k.toNat p) = (true, q) := by
 rw [walkK] at h
 split at h
 · rename_i hk
   subst hk
   split at h
   · rename_i hw
     rw [Int.toNat_natCast, hd p hw]
     exact ⟨⟨by omega, .inl ⟨by simp, hw⟩⟩, h⟩
   · simp at h
 · rename_i hk
   split at h
   · simp at h
   · rename_i hn
     have hlt : k.toNat < p := by omega
     rw [plN_met ns d _ p hlt]
     refine ⟨⟨by omega, .inr ⟨hlt, ?_⟩⟩, h⟩
     cases hb : namedK (kindAt ns k.toNat) with
     | true => rfl
     | false => exact absurd (.inr (.inr hb)) hn
theorem walkK_plc {ns : List NT} {d : Nat} (hd : ∀ p, (walkM ns d p).1 = true → plN ns d p p = (walkM ns d p).2) : ∀ (ks : List Int) (p q : Nat), walkK ns (walkM ns d) ks p = (true, q) →
  plK (plN ns d) ks p = q ∧ ∀ (i : Nat) (k : Int), ks[i]? = some k → KidAt ns d k (plK (plN ns d) (ks.take i) p)
 | [], p, q, h => by
   rw [walkK] at h
   exact ⟨(Prod.mk.inj h).2, by simp⟩
 | k :: ks, p, q, h => by
   obtain ⟨h1, h2⟩ := walkK_stp hd h
   obtain ⟨h3, h4⟩ := walkK_plc hd ks _ q h2
   refine ⟨h3, fun i x hx => ?_⟩
   match i with
   | 0 =>
     obtain rfl := Option.some.inj hx
     exact h1
   | i + 1 => exact h4 i x (by simpa using hx)
theorem pl_place (ns : List NT) : ∀ (d p : Nat), (walkM ns d p).1 = true → plN ns d p p = (walkM ns d p).2
 | 0, p, h => by rw [walkM] at h; simp at h
 | d + 1, p, h => by
   rw [walkM] at h ⊢
   cases hn : ns[p]? with
   | none => rw [hn] at h; simp at h
   | some n =>
     rw [hn] at h
     simp only [] at h ⊢
     rw [plN_new ns d p n hn]
     exact (walkK_plc (pl_place ns d) (kidsN n) (p + 1) _ (Prod.ext h rfl)).1
theorem plK_take (F : Nat → Nat → Nat) : ∀ (ks : List Int) (p i : Nat) (k : Int), ks[i]? = some k → plK F (ks.take (i + 1)) p = F k.toNat (plK F (ks.take i) p)
 | [], p, i, k, h => by simp at h
 | x :: ks, p, 0, k, h => by
   obtain rfl := Option.some.inj h
   rfl
 | x :: ks, p, i + 1, k, h => by
   rw [List.take_succ_cons, List.take_succ_cons, plK, plK]
   exact plK_take F ks _ i k (by simpa using h)
def mkL (ns : List NT) (p : Nat) : List Bool := ns.mapIdx fun j n => namedK n.kind && decide (j < p)
theorem mkL_len (ns : List NT) (p : Nat) : (mkL ns p).length = ns.length := by simp [mkL]
theorem mkL_at {ns : List NT} {k : Nat} {n : NT} (h : ns[k]? = some n) (p : Nat) : (mkL ns p)[k]? = some (namedK n.kind && decide (k < p)) := by
 rw [mkL, List.getElem?_mapIdx, h]
 rfl
theorem mkL_plain {ns : List NT} {p : Nat} {n : NT} (h : ns[p]? = some n) (hk : namedK n.kind = false) : mkL ns (p + 1) = mkL ns p := by
 apply List.ext_getElem?
 intro j
 rw [mkL, mkL, List.getElem?_mapIdx, List.getElem?_mapIdx]
 cases hj : ns[j]? with
 | none => rfl
 | some m =>
   simp only [Option.map_some, Option.some.injEq]
   by_cases e : j = p
   · subst e
     rw [h] at hj
     obtain rfl := Option.some.inj hj
     rw [hk]
     rfl
   · congr 1
     exact decide_eq_decide.2 (by omega)
theorem mkL_mark {ns : List NT} {p : Nat} {n : NT} (h : ns[p]? = some n) (hk : namedK n.kind = true) : mkL ns (p + 1) = (mkL ns p).set p true := by
 apply List.ext_getElem?
 intro j
 rw [List.getElem?_set]
 have hl : p < ns.length := (List.getElem?_eq_some_iff.1 h).1
 by_cases e : p = j
 · subst e
   rw [if_pos rfl, if_pos (by rw [mkL_len]; exact hl), mkL_at h, hk]
   simp
 · rw [if_neg e, mkL, mkL, List.getElem?_mapIdx, List.getElem?_mapIdx]
   cases hj : ns[j]? with
   | none => rfl
   | some m =>
     simp only [Option.map_some, Option.some.injEq]
     congr 1
     exact decide_eq_decide.2 (by omega)
def textJ (s : List UInt8) : JT := .mk 4 0 s [] []
def listJ (l : List JT) : JT := .mk 5 0 [] [] l
def textsJ (l : List (List UInt8)) : JT := listJ (l.map textJ)
def objJ (l : List (List UInt8 × JT)) : JT := .mk 6 0 [] (l.map Prod.fst) (l.map Prod.snd)
def putO (l : List (List UInt8 × JT)) (b : Bool) (k : List UInt8) (x : JT) : List (List UInt8 × JT) := if b = true then l ++ [(k, x)] else l
theorem putO_true (l : List (List UInt8 × JT)) (k : List UInt8) (x : JT) : putO l true k x = l ++ [(k, x)] := rfl
theorem putO_false (l : List (List UInt8 × JT)) (k : List UInt8) (x : JT) : putO l false k x = l := rfl
theorem putO_len (l : List (List UInt8 × JT)) (b : Bool) (k : List UInt8) (x : JT) : l.length ≤ (putO l b k x).length ∧ (putO l b k x).length ≤ l.length + 1 := by
 unfold putO
 split <;> simp
def spaceM (s : List UInt8) : List UInt8 := s.take (dotI s).toNat
def lastM (s : List UInt8) : List UInt8 := s.drop (dotI s + 1).toNat
def aName : List UInt8 := [110, 97, 109, 101]
def aType : List UInt8 := [116, 121, 112, 101]
def aSpace : List UInt8 := [110, 97, 109, 101, 115, 112, 97, 99, 101]
def aAliases : List UInt8 := [97, 108, 105, 97, 115, 101, 115]
def aDefault : List UInt8 := [100, 101, 102, 97, 117, 108, 116]
def aFields : List UInt8 := [102, 105, 101, 108, 100, 115]
def aSymbols : List UInt8 := [115, 121, 109, 98, 111, 108, 115]
def aSize : List UInt8 := [115, 105, 122, 101]
def aItems : List UInt8 := [105, 116, 101, 109, 115]
def aValues : List UInt8 := [118, 97, 108, 117, 101, 115]
def fieldO (f : FT) (x : JT) : List (List UInt8 × JT) := putO (putO [(aName, textJ f.name), (aType, x)] (decide (0 < f.aliases.length)) aAliases (textsJ f.aliases)) f.has aDefault f.dflt
def headO (n : NT) : List (List UInt8 × JT) := putO [(aType, textJ (wordM n.kind.toNat)), (aName, textJ (lastM n.name)), (aSpace, textJ (spaceM n.name))] (decide (0 < n.aliases.length)) aAliases (textsJ n.aliases)
def fieldsJ (fs : List FT) (X : Nat → JT) : Nat → List JT
 | 0 => []
 | i + 1 => fieldsJ fs X i ++ (match fs[i]? with | some f => [objJ (fieldO f (X i))] | none => [])
def brsJ (X : Nat → JT) : Nat → List JT
 | 0 => []
 | i + 1 => brsJ X i ++ [X i]
def nodeJ (n : NT) (X : Nat → JT) : JT :=
 if n.kind = 9 then objJ (headO n ++ [(aFields, listJ (fieldsJ n.fields X n.fields.length))])
 else if n.kind = 10 then objJ (putO (headO n ++ [(aSymbols, textsJ n.symbols)]) n.has aDefault (textJ n.dflt))
 else if n.kind = 14 then objJ (headO n ++ [(aSize, .mk 3 n.size [] [] [])])
 else if n.kind = 13 then listJ (brsJ X n.branches.length)
 else if n.kind = 11 then objJ [(aType, textJ (wordM 11)), (aItems, X 0)] else if n.kind = 12 then objJ [(aType, textJ (wordM 12)), (aValues, X 0)]
 else textJ (wordM n.kind.toNat)
def nameOk (a s : List UInt8) : Bool := a.isEmpty || !(spaceM s).isEmpty
def aliasOk (n : NT) : Bool := n.aliases.all fun a => nameOk (spaceM n.name) a
def aroundM (n : NT) (a : List UInt8) : List UInt8 := if n.kind = 9 then spaceM n.name else a
def oksM (f : Nat → Bool) : Nat → Bool
 | 0 => true
 | i + 1 => oksM f i && f i
def kidJ (T : Nat → Nat → JT) (F : Nat → Nat → Nat) (ks : List Int) (p : Nat) (i : Nat) : JT := match ks[i]? with | some k => T k.toNat (plK F (ks.take i) p) | none => jzero
def treeN (ns : List NT) : Nat → Nat → Nat → JT
 | 0 => fun k p => textJ (nmAt ns k)
 | d + 1 => fun k p => if k < p then textJ (nmAt ns k) else match ns[k]? with
   | none => textJ []
   | some n => nodeJ n (kidJ (treeN ns d) (plN ns d) (kidsN n) (p + 1))
def kidOk (T : Nat → Nat → List UInt8 → Bool) (F : Nat → Nat → Nat) (ks : List Int) (p : Nat) (a : List UInt8) (i : Nat) : Bool := match ks[i]? with | some k => T k.toNat (plK F (ks.take i) p) a | none => true
def selfOk (n : NT) : Bool := !namedK n.kind || aliasOk n
def okTr (ns : List NT) : Nat → Nat → Nat → List UInt8 → Bool
 | 0 => fun k p a => nameOk a (nmAt ns k)
 | d + 1 => fun k p a => if k < p then nameOk a (nmAt ns k) else match ns[k]? with
   | none => true
   | some n => selfOk n && oksM (kidOk (okTr ns d) (plN ns d) (kidsN n) (p + 1) (aroundM n a)) (kidsN n).length
theorem treeN_met (ns : List NT) (d k p : Nat) (h : k < p) : treeN ns d k p = textJ (nmAt ns k) := by
 cases d with
 | zero => rfl
 | succ d => rw [treeN]; simp only []; rw [if_pos h]
theorem okTr_met (ns : List NT) (d k p : Nat) (a : List UInt8) (h : k < p) : okTr ns d k p a = nameOk a (nmAt ns k) := by
 cases d with
 | zero => rfl
 | succ d => rw [okTr]; simp only []; rw [if_pos h]
theorem treeN_new (ns : List NT) (d p : Nat) (n : NT) (h : ns[p]? = some n) : treeN ns (d + 1) p p = nodeJ n (kidJ (treeN ns d) (plN ns d) (kidsN n) (p + 1)) := by
 rw [treeN]
 simp only []
 rw [if_neg (by omega), h]
theorem okTr_new (ns : List NT) (d p : Nat) (n : NT) (a : List UInt8) (h : ns[p]? = some n) : okTr ns (d + 1) p p a = (selfOk n && oksM (kidOk (okTr ns d) (plN ns d) (kidsN n) (p + 1) (aroundM n a)) (kidsN n).length) := by
 rw [okTr]
 simp only []
 rw [if_neg (by omega), h]
noncomputable def treeM (s : ST) : JT × Int :=
 if rightM s = true then (if okTr s.nodes 33 0 0 [] = true then (treeN s.nodes 33 0 0, 0) else (jzero, 31)) else (jzero, 2)
noncomputable def showM (s : ST) : List UInt8 × Int :=
 if (treeM s).2 ≠ 0 then ([], (treeM s).2) else if 32 < tdeep (treeM s).1 then ([], 21) else mPrint (treeM s).1
/-! Names. -/
theorem space_len (s : List UInt8) : (spaceM s).length ≤ s.length := by unfold spaceM; simp; omega
theorem last_len (s : List UInt8) : (lastM s).length ≤ s.length := by unfold lastM; simp
section

section
variable {P : Program} {N : Nat} {Q : Exit → ASt → Prop} {id : Nat} {o1 o2 : Oper} {t : Nat → AV} {h : Nat → Option Blkd} {n d1 d2 : Nat}
theorem eval_put {a : Act} {v : Value} (h : d1 < a.tmps.size) : (a.put (some d1) v).eval (.tmp d1) = v := by
 show (a.tmps.setIfInBounds d1 v).getD d1 undef = v
 simp [Array.getD, h]
theorem VC.nilq (ty ty' : TypeId) (x : Operand) (T : TyA) (z : Nat) (es : List (List PV)) (ho1 : o1.op = .move x) (hg1 : o1.guard = none) (hd1 : o1.dst = some d1)
  (ho2 : o2.op = .binOp .eql ty (.tmp d1) (.const (.slice none 0 0)) ty') (hg2 : o2.guard = none) (hd2 : o2.dst = some d2) (hx : okx t x) (ex : ev t x = .c (.sl z es)) (hT : tyA P ty = some T) (hk : T.kind = 1)
  (hd : dstOk [o1, o2].toArray N = true) (hL : Nat.ble (n + 8 * [o1, o2].length) L0 = true)
  (H : ∀ b : Bool, (es ≠ [] → b = false) → Q .normal ⟨putd (some d2) (.c (.v (.bool b))) (putd (some d1) (.c (.sl z es)) t), h, n + 8 * [o1, o2].length⟩) : VC P N (.region id [o1, o2].toArray false) ⟨t, h, n⟩ Q := ⟨fun C a W r => by
 obtain ⟨ro, φ, r⟩ := r
 have hdo := dst_of hd
 have hdn : d1 < N := hdo o1 (by simp) d1 hd1
 refine wp_region_list (wpList_step fun K hK => ?_)
 rw [if_pos (show Region.wanted o1 _ = true by unfold Region.wanted; rw [hg1])]
 have hrx := ev_rep r x hx
 have hsx := ev_sc r x hx
 rw [ex] at hrx hsx
 generalize hv : a.eval x = v at hrx
 have r1 := r.put (d := some d1) hrx hsx (fun k hk => by obtain rfl := Option.some.inj hk; exact hdn)
 have he1 : (a.put (some d1) v).eval (.tmp d1) = v := eval_put (by rw [r.size]; exact hdn)
 have hex1 : (execOp a.eval o1).run P W = .ok (.value v) W := by simp [execOp, ho1, hv]
 unfold Oper.wp
 rw [hex1]
 show K (a.put o1.dst v) W
 rw [hd1]
 refine hK _ _ (wpList_step fun K2 hK2 => ?_)
 rw [if_pos (show Region.wanted o2 _ = true by unfold Region.wanted; rw [hg2])]
 obtain ⟨d, i, a1, a2, rfl⟩ := tyA_some hT
 obtain ⟨e, rfl⟩ := kind_slice hk
 obtain ⟨b, hb, hrun⟩ : ∃ b : Bool, (es ≠ [] → b = false) ∧ (execOp (a.put (some d1) v).eval o2).run P W = .ok (.value (.bool b)) W := by
  cases hrx with
  | c hp =>
  cases hp with
  | @sl _ _ aa c vss hn hc hnil ha hvl hz1 hz2 hxx =>
    refine ⟨aa.isNone, fun hne => ?_, ?_⟩
    · obtain ⟨b, off, rfl, _⟩ := ha hne
      rfl
    · have he : (Op.equal ty (.slice aa es.length c) (.slice none 0 0)).run P W = .ok aa.isNone W := by
       show (Op.equalIn (9999 + 1) ty _ _).run P W = _
       rw [Op.equalIn]
       cases aa <;> simp [run_underlying a1]
      have hg : (eqGuard .eql ty (.tmp d1) (.const (.slice none 0 0)) (.slice aa es.length c) (.slice none 0 0)).run P W = .ok () W := by simp [eqGuard]
      have hn0 : (a.put (some d1) (.slice aa es.length c)).eval (.const (.slice none 0 0)) = .slice none 0 0 := rfl
      simp [execOp, ho2, he1, hn0, hg, binOp, he]
 have r2 := r1.put (d := some d2) (x := .c (.v (.bool b))) (v := .bool b) (.c (.v rfl)) .c (fun k hk => by obtain rfl := Option.some.inj hk; exact hdo o2 (by simp) _ hd2)
 unfold Oper.wp
 rw [hrun]
 show K2 ((a.put (some d1) v).put o2.dst (.bool b)) W
 rw [hd2]
 refine hK2 _ _ (wpList_nil ?_)
 refine ⟨_, H b hb, ro, φ, r2.take fun j hj => ?_⟩
 simp only [List.length_cons, List.length_nil] at hj ⊢
 unfold Used at hj ⊢
 omega⟩
end
end

theorem cloneS_told (es : List (List UInt8)) (hl : es.length ≤ 1000000) : Told Tryz.prog 39 [.c (.sl 1 (es.map sPV))] (.c (.sl 1 (es.map sPV))) := by
 refine VC.toldP ent_39 Tryz.func39 rfl Tryz.ntmps39 fun hb => ?_
 clear hb
 (refine VC.seq ?_; (first | refine VC.region (by rfl) (by rfl) ?_ | refine VC.draw mixP (by rfl) (by rfl) ?_); (repeat (refine AO.step fun K hK => ?_; simp only [go_sem, Int.reduceBEq, Int.reduceLE, Int.reduceLT, Int.reduceNeg, Nat.reduceAdd, Nat.reduceEqDiff, Nat.reduceLT, Nat.reduceLeDiff, Nat.reduceMul, Nat.reduceSub, reduceCtorEq, ↓reduceIte]; (first | refine gsel_skip ?_ | refine gsel_go ?_ | skip); (first | refine hK _ _ _ ?_ | refine ⟨by first | omega | exact ⟨_, rfl, rfl⟩ | exact fun _ => ⟨_, rfl, rfl⟩ | (intro h; simp only [h, true_and]; omega) | (clear hK; intro h; simp_all <;> omega), hK _ _ _ ?_⟩); clear hK K)); refine AO.nil ?_; first | refine SQ.normal ?_ | refine ⟨okd_of (by kernel_rfl), SQ.normal ?_⟩)
 refine VC.seq ?_
 refine VC.seq ?_
 refine VC.nilq _ _ (.tmp 0) _ 1 (es.map sPV) rfl rfl rfl rfl rfl rfl trivial rfl tyA_29 rfl (by rfl) (by rfl) fun b hb0 => ?_
 refine SQ.normal ?_
 cases b with
 | true =>
   have he : es = [] := by
    cases es with
    | nil => rfl
    | cons x l => exact absurd (hb0 (by simp)) (by simp)
   subst he
   refine walkB ?_
   refine retX Tryz.results39 ?_
   exact .nil 1
 | false =>
   refine walkB ?_
   refine retX Tryz.results39 ?_
   refine frz_rA (f := sPV) (l := es) (T := 9) ?_ ?_ rfl (fun x _ => rfl)
   · simp [upd_at, rA_pv]
   · simp

theorem cloneI_told (es : List (Int)) (hl : es.length ≤ 1000000) : Told Tryz.prog 41 [.c (.sl 1 (es.map iPV))] (.c (.sl 1 (es.map iPV))) := by
 refine VC.toldP ent_41 Tryz.func41 rfl Tryz.ntmps41 fun hb => ?_
 clear hb
 (refine VC.seq ?_; (first | refine VC.region (by rfl) (by rfl) ?_ | refine VC.draw mixP (by rfl) (by rfl) ?_); (repeat (refine AO.step fun K hK => ?_; simp only [go_sem, Int.reduceBEq, Int.reduceLE, Int.reduceLT, Int.reduceNeg, Nat.reduceAdd, Nat.reduceEqDiff, Nat.reduceLT, Nat.reduceLeDiff, Nat.reduceMul, Nat.reduceSub, reduceCtorEq, ↓reduceIte]; (first | refine gsel_skip ?_ | refine gsel_go ?_ | skip); (first | refine hK _ _ _ ?_ | refine ⟨by first | omega | exact ⟨_, rfl, rfl⟩ | exact fun _ => ⟨_, rfl, rfl⟩ | (intro h; simp only [h, true_and]; omega) | (clear hK; intro h; simp_all <;> omega), hK _ _ _ ?_⟩); clear hK K)); refine AO.nil ?_; first | refine SQ.normal ?_ | refine ⟨okd_of (by kernel_rfl), SQ.normal ?_⟩)
 refine VC.seq ?_
 refine VC.seq ?_
 refine VC.nilq _ _ (.tmp 0) _ 1 (es.map iPV) rfl rfl rfl rfl rfl rfl trivial rfl tyA_31 rfl (by rfl) (by rfl) fun b hb0 => ?_
 refine SQ.normal ?_
 cases b with
 | true =>
   have he : es = [] := by
    cases es with
    | nil => rfl
    | cons x l => exact absurd (hb0 (by simp)) (by simp)
   subst he
   refine walkB ?_
   refine retX Tryz.results41 ?_
   exact .nil 1
 | false =>
   refine walkB ?_
   refine retX Tryz.results41 ?_
   refine frz_rA (f := iPV) (l := es) (T := 3) ?_ ?_ rfl (fun x _ => rfl)
   · simp [upd_at, rA_pv]
   · simp

theorem cloneF_told (es : List (FT)) (hl : es.length ≤ 1000000) : Told Tryz.prog 40 [.c (.sl 9 (es.map FT.cells))] (.c (.sl 9 (es.map FT.cells))) := by
 refine VC.toldP ent_40 Tryz.func40 rfl Tryz.ntmps40 fun hb => ?_
 clear hb
 (refine VC.seq ?_; (first | refine VC.region (by rfl) (by rfl) ?_ | refine VC.draw mixP (by rfl) (by rfl) ?_); (repeat (refine AO.step fun K hK => ?_; simp only [go_sem, Int.reduceBEq, Int.reduceLE, Int.reduceLT, Int.reduceNeg, Nat.reduceAdd, Nat.reduceEqDiff, Nat.reduceLT, Nat.reduceLeDiff, Nat.reduceMul, Nat.reduceSub, reduceCtorEq, ↓reduceIte]; (first | refine gsel_skip ?_ | refine gsel_go ?_ | skip); (first | refine hK _ _ _ ?_ | refine ⟨by first | omega | exact ⟨_, rfl, rfl⟩ | exact fun _ => ⟨_, rfl, rfl⟩ | (intro h; simp only [h, true_and]; omega) | (clear hK; intro h; simp_all <;> omega), hK _ _ _ ?_⟩); clear hK K)); refine AO.nil ?_; first | refine SQ.normal ?_ | refine ⟨okd_of (by kernel_rfl), SQ.normal ?_⟩)
 refine VC.seq ?_
 refine VC.seq ?_
 refine VC.nilq _ _ (.tmp 0) _ 9 (es.map FT.cells) rfl rfl rfl rfl rfl rfl trivial rfl tyA_30 rfl (by rfl) (by rfl) fun b hb0 => ?_
 refine SQ.normal ?_
 cases b with
 | true =>
   have he : es = [] := by
    cases es with
    | nil => rfl
    | cons x l => exact absurd (hb0 (by simp)) (by simp)
   subst he
   refine walkB ?_
   refine retX Tryz.results40 ?_
   exact .nil 9
 | false =>
   refine walkB ?_
   refine retX Tryz.results40 ?_
   refine frz_rA (f := FT.cells) (l := es) (T := 38) ?_ ?_ rfl (fun x _ => len_fcells x)
   · simp [upd_at, rA_pv]
   · simp
theorem cloneF_toldM (es : List (FT)) (hne : es ≠ []) (hl : es.length ≤ 1000000) : ToldM Tryz.prog 40 [.c (.sl 9 (es.map FT.cells))] [] [some ⟨true, 38, 9, rA FT.cells es⟩] (.row 1000000 es.length) := by
 refine VC.toldXF (And.intro @rA_len @rA_sc) ent_40 [24] Tryz.func40 rfl Tryz.ntmps40 fun hb hbL => ?_
 clear hb hbL
 (refine VC.seq ?_; (first | refine VC.region (by rfl) (by rfl) ?_ | refine VC.draw mixP (by rfl) (by rfl) ?_); (repeat (refine AO.step fun K hK => ?_; simp only [go_sem, Int.reduceBEq, Int.reduceLE, Int.reduceLT, Int.reduceNeg, Nat.reduceAdd, Nat.reduceEqDiff, Nat.reduceLT, Nat.reduceLeDiff, Nat.reduceMul, Nat.reduceSub, reduceCtorEq, ↓reduceIte]; (first | refine gsel_skip ?_ | refine gsel_go ?_ | skip); (first | refine hK _ _ _ ?_ | refine ⟨by first | omega | exact ⟨_, rfl, rfl⟩ | exact fun _ => ⟨_, rfl, rfl⟩ | (intro h; simp only [h, true_and]; omega) | (clear hK; intro h; simp_all <;> omega), hK _ _ _ ?_⟩); clear hK K)); refine AO.nil ?_; first | refine SQ.normal ?_ | refine ⟨okd_of (by kernel_rfl), SQ.normal ?_⟩)
 refine VC.seq ?_
 refine VC.seq ?_
 refine VC.nilq _ _ (.tmp 0) _ 9 (es.map FT.cells) rfl rfl rfl rfl rfl rfl trivial rfl tyA_30 rfl (by rfl) (by rfl) fun b hb0 => ?_
 refine SQ.normal ?_
 have hb1 : b = false := hb0 (by cases es with | nil => exact absurd rfl hne | cons x l => simp)
 subst hb1
 have hpv := (rA_pv FT.cells es).symm
 refine walkB ?_
 refine retXF (And.intro hpv @rA_ren) Tryz.results40 ?_
 exact .keepW rfl

theorem cloneJ_told (es : List (JT)) (hl : es.length ≤ 1000000) : Told Tryz.prog 81 [.c (.sl 5 (es.map JT.cells))] (.c (.sl 5 (es.map JT.cells))) := by
 refine VC.toldP ent_81 Tryz.func81 rfl Tryz.ntmps81 fun hb => ?_
 clear hb
 (refine VC.seq ?_; (first | refine VC.region (by rfl) (by rfl) ?_ | refine VC.draw mixP (by rfl) (by rfl) ?_); (repeat (refine AO.step fun K hK => ?_; simp only [go_sem, Int.reduceBEq, Int.reduceLE, Int.reduceLT, Int.reduceNeg, Nat.reduceAdd, Nat.reduceEqDiff, Nat.reduceLT, Nat.reduceLeDiff, Nat.reduceMul, Nat.reduceSub, reduceCtorEq, ↓reduceIte]; (first | refine gsel_skip ?_ | refine gsel_go ?_ | skip); (first | refine hK _ _ _ ?_ | refine ⟨by first | omega | exact ⟨_, rfl, rfl⟩ | exact fun _ => ⟨_, rfl, rfl⟩ | (intro h; simp only [h, true_and]; omega) | (clear hK; intro h; simp_all <;> omega), hK _ _ _ ?_⟩); clear hK K)); refine AO.nil ?_; first | refine SQ.normal ?_ | refine ⟨okd_of (by kernel_rfl), SQ.normal ?_⟩)
 refine VC.seq ?_
 refine VC.seq ?_
 refine VC.nilq _ _ (.tmp 0) _ 5 (es.map JT.cells) rfl rfl rfl rfl rfl rfl trivial rfl tyA_34 rfl (by rfl) (by rfl) fun b hb0 => ?_
 refine SQ.normal ?_
 cases b with
 | true =>
   have he : es = [] := by
    cases es with
    | nil => rfl
    | cons x l => exact absurd (hb0 (by simp)) (by simp)
   subst he
   refine walkB ?_
   refine retX Tryz.results81 ?_
   exact .nil 5
 | false =>
   refine walkB ?_
   refine retX Tryz.results81 ?_
   refine frz_rA (f := JT.cells) (l := es) (T := 36) ?_ ?_ rfl (fun x _ => len_cells x)
   · simp [upd_at, rA_pv]
   · simp
theorem cloneJ_toldM (es : List (JT)) (hne : es ≠ []) (hl : es.length ≤ 1000000) : ToldM Tryz.prog 81 [.c (.sl 5 (es.map JT.cells))] [] [some ⟨true, 36, 5, rA JT.cells es⟩] (.row 1000000 es.length) := by
 refine VC.toldXF (And.intro @rA_len @rA_sc) ent_81 [24] Tryz.func81 rfl Tryz.ntmps81 fun hb hbL => ?_
 clear hb hbL
 (refine VC.seq ?_; (first | refine VC.region (by rfl) (by rfl) ?_ | refine VC.draw mixP (by rfl) (by rfl) ?_); (repeat (refine AO.step fun K hK => ?_; simp only [go_sem, Int.reduceBEq, Int.reduceLE, Int.reduceLT, Int.reduceNeg, Nat.reduceAdd, Nat.reduceEqDiff, Nat.reduceLT, Nat.reduceLeDiff, Nat.reduceMul, Nat.reduceSub, reduceCtorEq, ↓reduceIte]; (first | refine gsel_skip ?_ | refine gsel_go ?_ | skip); (first | refine hK _ _ _ ?_ | refine ⟨by first | omega | exact ⟨_, rfl, rfl⟩ | exact fun _ => ⟨_, rfl, rfl⟩ | (intro h; simp only [h, true_and]; omega) | (clear hK; intro h; simp_all <;> omega), hK _ _ _ ?_⟩); clear hK K)); refine AO.nil ?_; first | refine SQ.normal ?_ | refine ⟨okd_of (by kernel_rfl), SQ.normal ?_⟩)
 refine VC.seq ?_
 refine VC.seq ?_
 refine VC.nilq _ _ (.tmp 0) _ 5 (es.map JT.cells) rfl rfl rfl rfl rfl rfl trivial rfl tyA_34 rfl (by rfl) (by rfl) fun b hb0 => ?_
 refine SQ.normal ?_
 have hb1 : b = false := hb0 (by cases es with | nil => exact absurd rfl hne | cons x l => simp)
 subst hb1
 have hpv := (rA_pv JT.cells es).symm
 refine walkB ?_
 refine retXF (And.intro hpv @rA_ren) Tryz.results81 ?_
 exact .keepW rfl

theorem cloneN_told (es : List (NT)) (hl : es.length ≤ 1000000) : Told Tryz.prog 38 [.c (.sl 10 (es.map NT.cells))] (.c (.sl 10 (es.map NT.cells))) := by
 refine VC.toldP ent_38 Tryz.func38 rfl Tryz.ntmps38 fun hb => ?_
 clear hb
 (refine VC.seq ?_; (first | refine VC.region (by rfl) (by rfl) ?_ | refine VC.draw mixP (by rfl) (by rfl) ?_); (repeat (refine AO.step fun K hK => ?_; simp only [go_sem, Int.reduceBEq, Int.reduceLE, Int.reduceLT, Int.reduceNeg, Nat.reduceAdd, Nat.reduceEqDiff, Nat.reduceLT, Nat.reduceLeDiff, Nat.reduceMul, Nat.reduceSub, reduceCtorEq, ↓reduceIte]; (first | refine gsel_skip ?_ | refine gsel_go ?_ | skip); (first | refine hK _ _ _ ?_ | refine ⟨by first | omega | exact ⟨_, rfl, rfl⟩ | exact fun _ => ⟨_, rfl, rfl⟩ | (intro h; simp only [h, true_and]; omega) | (clear hK; intro h; simp_all <;> omega), hK _ _ _ ?_⟩); clear hK K)); refine AO.nil ?_; first | refine SQ.normal ?_ | refine ⟨okd_of (by kernel_rfl), SQ.normal ?_⟩)
 refine VC.seq ?_
 refine VC.seq ?_
 refine VC.nilq _ _ (.tmp 0) _ 10 (es.map NT.cells) rfl rfl rfl rfl rfl rfl trivial rfl tyA_22 rfl (by rfl) (by rfl) fun b hb0 => ?_
 refine SQ.normal ?_
 cases b with
 | true =>
   have he : es = [] := by
    cases es with
    | nil => rfl
    | cons x l => exact absurd (hb0 (by simp)) (by simp)
   subst he
   refine walkB ?_
   refine retX Tryz.results38 ?_
   exact .nil 10
 | false =>
   refine walkB ?_
   refine retX Tryz.results38 ?_
   refine frz_rA (f := NT.cells) (l := es) (T := 33) ?_ ?_ rfl (fun x _ => len_ncells x)
   · simp [upd_at, rA_pv]
   · simp
theorem cloneN_toldM (es : List (NT)) (hne : es ≠ []) (hl : es.length ≤ 1000000) : ToldM Tryz.prog 38 [.c (.sl 10 (es.map NT.cells))] [] [some ⟨true, 33, 10, rA NT.cells es⟩] (.row 1000000 es.length) := by
 refine VC.toldXF (And.intro @rA_len @rA_sc) ent_38 [24] Tryz.func38 rfl Tryz.ntmps38 fun hb hbL => ?_
 clear hb hbL
 (refine VC.seq ?_; (first | refine VC.region (by rfl) (by rfl) ?_ | refine VC.draw mixP (by rfl) (by rfl) ?_); (repeat (refine AO.step fun K hK => ?_; simp only [go_sem, Int.reduceBEq, Int.reduceLE, Int.reduceLT, Int.reduceNeg, Nat.reduceAdd, Nat.reduceEqDiff, Nat.reduceLT, Nat.reduceLeDiff, Nat.reduceMul, Nat.reduceSub, reduceCtorEq, ↓reduceIte]; (first | refine gsel_skip ?_ | refine gsel_go ?_ | skip); (first | refine hK _ _ _ ?_ | refine ⟨by first | omega | exact ⟨_, rfl, rfl⟩ | exact fun _ => ⟨_, rfl, rfl⟩ | (intro h; simp only [h, true_and]; omega) | (clear hK; intro h; simp_all <;> omega), hK _ _ _ ?_⟩); clear hK K)); refine AO.nil ?_; first | refine SQ.normal ?_ | refine ⟨okd_of (by kernel_rfl), SQ.normal ?_⟩)
 refine VC.seq ?_
 refine VC.seq ?_
 refine VC.nilq _ _ (.tmp 0) _ 10 (es.map NT.cells) rfl rfl rfl rfl rfl rfl trivial rfl tyA_22 rfl (by rfl) (by rfl) fun b hb0 => ?_
 refine SQ.normal ?_
 have hb1 : b = false := hb0 (by cases es with | nil => exact absurd rfl hne | cons x l => simp)
 subst hb1
 have hpv := (rA_pv NT.cells es).symm
 refine walkB ?_
 refine retXF (And.intro hpv @rA_ren) Tryz.results38 ?_
 exact .keepW rfl
end
end Go.Proofs.YtepneflbhpidbaaGreatDoor
