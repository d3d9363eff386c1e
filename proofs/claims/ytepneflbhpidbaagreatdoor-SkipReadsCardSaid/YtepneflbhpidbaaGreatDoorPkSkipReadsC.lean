/- Texts that lead to the law SkipReads, joined. -/
import Derived.Test.YtepneflbhpidbaaGreatDoorPkSkipReadsA
import Derived.Test.YtepneflbhpidbaaGreatDoorPkSkipReadsB
namespace Go.Proofs.YtepneflbhpidbaaGreatDoor
set_option maxRecDepth 100000
set_option maxHeartbeats 6400000
open Go.RowKit
set_option linter.unusedVariables false
set_option linter.unusedSimpArgs false
section
attribute [local go_sem] opx opE ev okx gcond bnd okO AV.get AV.okb cAV upd_at putd_some putd_none wrs_nil wrs_cons look_nil look_cons st argT_at bpick_and bpick_or bpick_true bpick_false binV binI binS binVOk binOk isShift binSOk unV unVOk loadV loadP cellsA zeroA Blkd.len setE grown moreA moreR moreOk eqRes pv fillA fillE putSeg AV.cellish AV.pureL AV.pureB lentL_is ex_some AV.ren AV.renL renL_c Blkd.ren rho wrM renN lentOk rhoE keepM endOk tyA_2 tyA_3 tyA_4 tyA_5 tyA_6 tyA_7 tyA_8 tyA_9 tyA_10 tyA_11 tyA_12 tyA_13 tyA_14 tyA_15 tyA_16 tyA_17 tyA_18 tyA_19 tyA_21 tyA_22 tyA_23 tyA_24 tyA_29 tyA_30 tyA_31 tyA_32 tyA_33 tyA_34 tyA_35 tyA_36 tyA_37 tyA_38 tyA_39 tyA_40 tyA_41 tyA_42 tyA_43 tyA_48 tyA_72 tyA_76 tyA_85 tyA_86 tyA_87 tyA_88 tyA_97 tyA_100 tyA_101 tyA_102 tyA_103 tyA_104 tyA_105 tyA_106 tyA_128 tyA_137 tyA_138 tyA_139 tyA_140 tyA_141 tyA_142 tyA_147 tyA_148 tyA_149 tyA_167 tyA_168 tyA_169 tyA_170 tyA_172 tyA_176 tyA_177 tyA_178 tyA_186 tyA_196 tyA_231 tyA_232 tyA_233 tyA_257 tyA_262 tyA_268 tyA_270 tyA_272 tyA_281 tyA_285 tyA_287 tyA_290 tyA_291 tyA_292 tyA_293 tyA_294 tyA_295 tyA_296 tyA_298 tyA_299 Option.map_some Option.map_none Option.getD_some Option.getD_none Option.bind_some Option.bind_none List.getElem?_cons_zero List.getElem?_cons_succ List.getElem?_nil List.getElem?_toArray List.length_cons List.length_nil List.length_map List.forall_mem_map List.map_cons List.map_nil List.drop_zero List.drop_succ_cons List.drop_nil List.take_zero List.take_succ_cons List.take_nil List.mem_cons List.not_mem_nil or_false forall_eq_or_imp forall_eq List.set_cons_zero List.set_cons_succ List.cons_append List.nil_append List.append_nil List.foldl_cons List.foldl_nil List.replicate_succ List.replicate_zero List.all_cons List.all_nil if_true if_false Bool.false_eq_true ne_eq not_false_eq_true not_true_eq_false true_and and_true and_self true_implies imp_self implies_true forall_const beq_self_eq_true Bool.and_true Bool.true_and Bool.and_false Bool.false_and Bool.or_true Bool.true_or Bool.or_false Bool.false_or Bool.not_true Bool.not_false Bool.not_eq_eq_eq_not intKindOf Value.oneCell' Int.toNat_natCast beq_true beq_false Bool.not_eq_true false_implies false_or true_or or_true Nat.zero_add Nat.add_zero decide_true decide_false Int.cast_ofNat_Int Int.toNat_zero Int.toNat_one eq_self

def bkeys5 : Nat → List (List UInt8) → Option Nat
 | n, [] => some n
 | n, y :: ys => if n ≤ 2500 then (if 2500 < y.length then none else bkeys5 (n + 1 + y.length) ys) else some n
mutual
def tbulk5 (d : Nat) : JT → Nat
 | .mk k n s ks xs => if 60 < d ∨ 2500 < s.length ∨ 2500 < ks.length ∨ 2500 < xs.length then 2501 else match bkeys5 (1 + s.length) ks with | none => 2501 | some n => bitems5 d n xs
def bitems5 (d : Nat) : Nat → List JT → Nat
 | n, [] => n
 | n, x :: xs => if n ≤ 2500 then bitems5 d (n + tbulk5 (d + 1) x) xs else n
end
theorem bkeys5_le : ∀ (ys : List (List UInt8)) (n m : Nat), n ≤ 5001 → bkeys5 n ys = some m → m ≤ 5001
 | [], n, m, h, e => by simp [bkeys5] at e; omega
 | y :: ys, n, m, h, e => by
   rw [bkeys5] at e
   split at e
   · split at e
     · simp at e
     · exact bkeys5_le ys _ m (by omega) e
   · simp at e; omega
mutual
theorem tbulk5_le (d : Nat) : ∀ (t : JT), tbulk5 d t ≤ 5001 + 2501 * (61 - d)
 | .mk k n s ks xs => by
   rw [tbulk5]
   split
   · omega
   · rename_i h
     split
     · omega
     · rename_i m hm
       exact bitems5_le d xs m (by have := bkeys5_le ks _ _ (by omega) hm; omega)
theorem bitems5_le (d : Nat) : ∀ (xs : List JT) (n : Nat), n ≤ 5001 + 2501 * (61 - d) → bitems5 d n xs ≤ 5001 + 2501 * (61 - d)
 | [], n, h => by rw [bitems5]; exact h
 | x :: xs, n, h => by
   rw [bitems5]
   split
   · have := tbulk5_le (d + 1) x
     by_cases hd : 60 < d
     · have h2 : tbulk5 (d + 1) x = 2501 := by
        cases x
        rw [tbulk5, if_pos (by omega)]
       exact bitems5_le d xs _ (by omega)
     · exact bitems5_le d xs _ (by omega)
   · exact h
end
theorem bitems5_ge (d : Nat) : ∀ (xs : List JT) (n : Nat), n ≤ bitems5 d n xs
 | [], n => by rw [bitems5]; exact Nat.le_refl _
 | x :: xs, n => by
   rw [bitems5]
   split
   · exact Nat.le_trans (Nat.le_add_right _ _) (bitems5_ge d xs _)
   · exact Nat.le_refl _
mutual
theorem tbulk5_deep (d : Nat) : ∀ (t : JT), tbulk5 d t ≤ 2500 → tdeep t + d ≤ 61
 | .mk k n s ks xs => fun h => by
   rw [tbulk5] at h
   split at h
   · omega
   · rename_i hd
     split at h
     · omega
     · rw [tdeep]
       split
       · exact bitems5_deep d xs _ 1 (by omega) h
       · omega
theorem bitems5_deep (d : Nat) : ∀ (xs : List JT) (n m : Nat), m + d ≤ 61 → bitems5 d n xs ≤ 2500 → tdeeps m xs + d ≤ 61
 | [], n, m, hm, h => by rw [tdeeps]; exact hm
 | x :: xs, n, m, hm, h => by
   rw [bitems5] at h
   split at h
   · have h1 := bitems5_ge d xs (n + tbulk5 (d + 1) x)
     have h2 := tbulk5_deep (d + 1) x (by omega)
     rw [tdeeps]
     exact bitems5_deep d xs _ _ (by omega) h
   · omega
end
theorem bkeys5_step {ks : List (List UInt8)} {i n : Nat} {y : List UInt8} (hy : ks[i]? = some y) (hn : n ≤ 2500) (hl : y.length ≤ 2500) : bkeys5 n (ks.drop i) = bkeys5 (n + 1 + y.length) (ks.drop (i + 1)) := by
 obtain ⟨hlt, rfl⟩ := List.getElem?_eq_some_iff.1 hy
 rw [List.drop_eq_getElem_cons hlt, bkeys5, if_pos hn, if_neg (by omega)]
theorem bkeys5_none {ks : List (List UInt8)} {i n : Nat} {y : List UInt8} (hy : ks[i]? = some y) (hn : n ≤ 2500) (hl : 2500 < y.length) : bkeys5 n (ks.drop i) = none := by
 obtain ⟨hlt, rfl⟩ := List.getElem?_eq_some_iff.1 hy
 rw [List.drop_eq_getElem_cons hlt, bkeys5, if_pos hn, if_pos hl]
theorem bkeys5_end {ks : List (List UInt8)} {i n : Nat} (h : ¬ (i < ks.length ∧ n ≤ 2500)) : bkeys5 n (ks.drop i) = some n := by
 by_cases hlt : i < ks.length
 · rw [List.drop_eq_getElem_cons hlt, bkeys5, if_neg (by omega)]
 · rw [List.drop_of_length_le (by omega), bkeys5]
theorem bitems5_step {d : Nat} {xs : List JT} {i n : Nat} {x : JT} (hx : xs[i]? = some x) (hn : n ≤ 2500) : bitems5 d n (xs.drop i) = bitems5 d (n + tbulk5 (d + 1) x) (xs.drop (i + 1)) := by
 obtain ⟨hlt, rfl⟩ := List.getElem?_eq_some_iff.1 hx
 rw [List.drop_eq_getElem_cons hlt, bitems5, if_pos hn]
theorem bitems5_end {d : Nat} {xs : List JT} {i n : Nat} (h : ¬ (i < xs.length ∧ n ≤ 2500)) : bitems5 d n (xs.drop i) = n := by
 by_cases hlt : i < xs.length
 · rw [List.drop_eq_getElem_cons hlt, bitems5, if_neg (by omega)]
 · rw [List.drop_of_length_le (by omega), bitems5]
theorem bulk_told5 : ∀ (m : Nat) (t : JT), SizeOf.sizeOf t ≤ m → ∀ (d : Nat) (z : Int), d ≤ 61 → z = (d : Int) → Told Tryz.prog 66 [t.av, .c (.v (.int .i64 2500)), .c (.v (.int .i64 z))] (.c (.v (.int .i64 (tbulk5 d t)))) := by
 intro m
 induction m with
 | zero => intro t ht; cases t; simp at ht
 | succ m ih =>
 intro t ht d z hd hz
 cases t with
 | mk k n s ks xs =>
 have hbl := tbulk5_le d (.mk k n s ks xs)
 have hbi := bitems5_le d xs
 refine VC.told ent_66 Tryz.func66 rfl Tryz.ntmps66 (by simp) rfl rfl fun hb => ?_
 simp only [JT.av, cells_mk, List.map_cons, List.map_nil, abd_agg, abd_c, pbd_v, pbd_sl, List.mem_cons, List.not_mem_nil, or_false, forall_eq_or_imp, forall_eq, true_and, List.length_map] at hb ⊢
 clear hb
 have hw21 : IntKind.i64.wrap (2500 + 1) = 2501 := by rfl
 rw [tbulk5] at hbl ⊢
 refine walkGF (@str_size) ?_
 refine VC.cond (by rfl) (by trivial) (fun hc => ?_) (fun hc => ?_)
 · have hcc : 60 < d ∨ 2500 < s.length ∨ 2500 < ks.length ∨ 2500 < xs.length := by
    simp at hc
    omega
   rw [if_pos hcc]
   refine walkGF (hw21) ?_
   refine ⟨.inr rfl, ?_⟩
   rw [Tryz.results66]
   simp only [resOk, resV, go_sem, simprocAttr]
   exact .c _
 · have hcc : ¬ (60 < d ∨ 2500 < s.length ∨ 2500 < ks.length ∨ 2500 < xs.length) := by
    simp at hc
    omega
   rw [if_neg hcc] at hbl ⊢
   clear hc
   obtain ⟨V, hV⟩ : ∃ V, V = bkeys5 (1 + s.length) ks := ⟨_, rfl⟩
   rw [← hV] at hbl ⊢
   have hw1 : IntKind.i64.wrap (1 + (s.length : Int)) = 1 + (s.length : Int) := wrap64_id (by omega) (by omega)
   refine walkGF (And.intro @cells_mk (And.intro @str_size hw1)) ?_
   refine VC.loop (ι := {p : Nat × Nat // p.1 ≤ ks.length ∧ p.2 ≤ 5001 ∧ bkeys5 p.2 (ks.drop p.1) = V}) (fun p => [(1, .c (.v (.int .i64 2500))), (2, .c (.v (.int .i64 z))), (3, .ref 0 1 0 0), (7, .c (.v (.int .i64 p.1.2))), (8, .c (.v (.int .i64 p.1.1)))])
    (fun _ => [(0, ⟨false, 36, 5, [(JT.mk k n s ks xs).cells.map .c]⟩)]) 8 (fun p => ks.length - p.1.1) ⟨(0, 1 + s.length), Nat.zero_le _, by simp only []; omega, by simpa using hV.symm⟩ ?_ ?_
   · simp only [cells_mk, Weak, eq_self, used_is, sc_any, sc_c, sc_pp, sc_ref, sc_row, sc_agg, sc_fn, ScL, some_imp, List.forall_mem_map, go_sem, Int.reduceBEq, Int.reduceLE, Int.reduceLT, Int.reduceNeg, Nat.reduceAdd, Nat.reduceEqDiff, Nat.reduceLT, Nat.reduceLeDiff, Nat.reduceMul, Nat.reduceSub, reduceCtorEq, ↓reduceIte]
     all_goals first | rfl | exact cI (by omega)
   rintro ⟨⟨i, b⟩, hi, hb, hbk⟩
   simp only [] at hi hb hbk ⊢
   refine walkGF (@cells_mk) ?_
   refine VC.cond (by rfl) (by trivial) (fun hc => ?_) (fun hc => ?_)
   · have hcc : i < ks.length ∧ b ≤ 2500 := by
      simp at hc
      omega
     clear hc
     obtain ⟨y, hy⟩ : ∃ y, ks[i]? = some y := ⟨ks[i], List.getElem?_eq_getElem hcc.1⟩
     (repeat (first | refine pass ?_ | refine VC.region (by rfl) (by rfl) ?_ | (refine AO.step fun K hK => ?_; simp only [cells_mk, List.getElem?_map, hy, sPV, str_size, go_sem, Int.reduceBEq, Int.reduceLE, Int.reduceLT, Int.reduceNeg, Nat.reduceAdd, Nat.reduceEqDiff, Nat.reduceLT, Nat.reduceLeDiff, Nat.reduceMul, Nat.reduceSub, reduceCtorEq, ↓reduceIte]; (first | refine gsel_skip ?_ | refine gsel_go ?_ | skip); (first | refine hK _ _ _ ?_ | refine ⟨by first | omega | exact ⟨_, rfl, rfl⟩ | exact fun _ => ⟨_, rfl, rfl⟩ | (intro h; simp only [cells_mk, List.getElem?_map, hy, sPV, str_size, h, true_and]; omega) | (clear hK; intro h; simp_all <;> omega), hK _ _ _ ?_⟩); clear hK K) | refine VC.draw mixP (by rfl) (by rfl) ?_ | refine ⟨okd_of (by kernel_rfl), ?_⟩ | refine BQ.other (by decide) ?_ | refine VC.seq ?_ | refine AO.nil ?_ | refine VC.block ?_))
     refine VC.cond (by rfl) (by trivial) (fun hc => ?_) (fun hc => ?_)
     · have hl : 2500 < y.length := by
        simp at hc
        omega
       obtain rfl : V = none := hbk.symm.trans (bkeys5_none hy hcc.2 hl)
       refine walkGF (hw21) ?_
       refine ⟨.inr rfl, ?_⟩
       rw [Tryz.results66]
       simp only [resOk, resV, go_sem, simprocAttr]
       exact .c _
     · have hl : y.length ≤ 2500 := by
        simp at hc
        omega
       have hw2 : IntKind.i64.wrap ((b : Int) + 1) = (b : Int) + 1 := wrap64_id (by omega) (by omega)
       have hw3 : IntKind.i64.wrap ((b : Int) + 1 + (y.length : Int)) = (b : Int) + 1 + (y.length : Int) := wrap64_id (by omega) (by omega)
       have hw4 : IntKind.i64.wrap ((i : Int) + 1) = (i : Int) + 1 := wrap64_id (by omega) (by omega)
       (repeat (first | refine pass ?_ | refine VC.region (by rfl) (by rfl) ?_ | (refine AO.step fun K hK => ?_; simp only [cells_mk, List.getElem?_map, hy, sPV, str_size, hw2, hw3, hw4, go_sem, Int.reduceBEq, Int.reduceLE, Int.reduceLT, Int.reduceNeg, Nat.reduceAdd, Nat.reduceEqDiff, Nat.reduceLT, Nat.reduceLeDiff, Nat.reduceMul, Nat.reduceSub, reduceCtorEq, ↓reduceIte]; (first | refine gsel_skip ?_ | refine gsel_go ?_ | skip); (first | refine hK _ _ _ ?_ | refine ⟨by first | omega | exact ⟨_, rfl, rfl⟩ | exact fun _ => ⟨_, rfl, rfl⟩ | (intro h; simp only [cells_mk, List.getElem?_map, hy, sPV, str_size, hw2, hw3, hw4, h, true_and]; omega) | (clear hK; intro h; simp_all <;> omega), hK _ _ _ ?_⟩); clear hK K) | refine VC.draw mixP (by rfl) (by rfl) ?_ | refine ⟨okd_of (by kernel_rfl), ?_⟩ | refine BQ.other (by decide) ?_ | refine VC.seq ?_ | refine AO.nil ?_ | refine VC.block ?_))
       refine .next ⟨(i + 1, b + 1 + y.length), by simp only []; omega, by simp only []; omega, by simp only []; rw [← hbk, bkeys5_step hy hcc.2 hl]⟩ ?_ (by simp only []; omega)
       refine weakXF (@cells_mk) ?_
       exact ⟨cI (by omega), cI (by omega)⟩
   · have hcc : ¬ (i < ks.length ∧ b ≤ 2500) := by
      simp at hc
      omega
     clear hc
     obtain rfl : V = some b := hbk.symm.trans (bkeys5_end hcc)
     simp only [] at hbl ⊢
     obtain ⟨V, hV2⟩ : ∃ V, V = bitems5 d b xs := ⟨_, rfl⟩
     rw [← hV2] at hbl ⊢
     refine walkG ?_
     refine VC.loop (ι := {p : Nat × Nat // p.1 ≤ xs.length ∧ p.2 ≤ 5001 + 2501 * (61 - d) ∧ bitems5 d p.2 (xs.drop p.1) = V}) (fun p => [(1, .c (.v (.int .i64 2500))), (2, .c (.v (.int .i64 z))), (3, .ref 0 1 0 0), (7, .c (.v (.int .i64 p.1.2))), (9, .c (.v (.int .i64 p.1.1)))])
      (fun _ => [(0, ⟨false, 36, 5, [(JT.mk k n s ks xs).cells.map .c]⟩)]) 8 (fun p => xs.length - p.1.1) ⟨(0, b), Nat.zero_le _, by simp only []; omega, by simpa using hV2.symm⟩ ?_ ?_
     · simp only [cells_mk, Weak, eq_self, used_is, sc_any, sc_c, sc_pp, sc_ref, sc_row, sc_agg, sc_fn, ScL, some_imp, List.forall_mem_map, go_sem, Int.reduceBEq, Int.reduceLE, Int.reduceLT, Int.reduceNeg, Nat.reduceAdd, Nat.reduceEqDiff, Nat.reduceLT, Nat.reduceLeDiff, Nat.reduceMul, Nat.reduceSub, reduceCtorEq, ↓reduceIte]
       all_goals rfl
     clear hi hcc hbk
     rintro ⟨⟨i, c⟩, hi, hcb, hbt⟩
     simp only [] at hi hcb hbt ⊢
     refine walkGF (@cells_mk) ?_
     refine VC.cond (by rfl) (by trivial) (fun hc => ?_) (fun hc => ?_)
     · have hcc : i < xs.length ∧ c ≤ 2500 := by
        simp at hc
        omega
       clear hc
       obtain ⟨x, hx⟩ : ∃ x, xs[i]? = some x := ⟨xs[i], List.getElem?_eq_getElem hcc.1⟩
       have hxm := List.mem_of_getElem? hx
       have hsz : SizeOf.sizeOf x ≤ m := by
        have h1 := List.sizeOf_lt_of_mem hxm
        simp at ht
        omega
       have hcall := ih x hsz (d + 1) (z + 1) (by omega) (by omega)
       have hxb := tbulk5_le (d + 1) x
       have hw1 : IntKind.i64.wrap (z + 1) = z + 1 := wrap64_id (by omega) (by omega)
       have hw2 : IntKind.i64.wrap ((c : Int) + (tbulk5 (d + 1) x : Int)) = (c : Int) + (tbulk5 (d + 1) x : Int) := wrap64_id (by omega) (by omega)
       have hw4 : IntKind.i64.wrap ((i : Int) + 1) = (i : Int) + 1 := wrap64_id (by omega) (by omega)
       (repeat (first | refine pass ?_ | refine VC.region (by rfl) (by rfl) ?_ | (refine AO.step fun K hK => ?_; simp only [cells_mk, List.getElem?_map, hx, len_cells, take_cells, take_cellsC, hw1, go_sem, Int.reduceBEq, Int.reduceLE, Int.reduceLT, Int.reduceNeg, Nat.reduceAdd, Nat.reduceEqDiff, Nat.reduceLT, Nat.reduceLeDiff, Nat.reduceMul, Nat.reduceSub, reduceCtorEq, ↓reduceIte]; (first | refine gsel_skip ?_ | refine gsel_go ?_ | skip); (first | refine hK _ _ _ ?_ | refine ⟨by first | omega | exact ⟨_, rfl, rfl⟩ | exact fun _ => ⟨_, rfl, rfl⟩ | (intro h; simp only [cells_mk, List.getElem?_map, hx, len_cells, take_cells, take_cellsC, hw1, h, true_and]; omega) | (clear hK; intro h; simp_all <;> omega), hK _ _ _ ?_⟩); clear hK K) | refine VC.draw mixP (by rfl) (by rfl) ?_ | refine ⟨okd_of (by kernel_rfl), ?_⟩ | refine BQ.other (by decide) ?_ | refine VC.seq ?_ | refine AO.nil ?_ | refine VC.block ?_))
       (refine AO.step fun K hK => ?_; simp only [go_sem, Int.reduceBEq, Int.reduceLE, Int.reduceLT, Int.reduceNeg, Nat.reduceAdd, Nat.reduceEqDiff, Nat.reduceLT, Nat.reduceLeDiff, Nat.reduceMul, Nat.reduceSub, reduceCtorEq, ↓reduceIte, pureL_c]; (first | refine gsel_go ?_ | skip))
       refine .inl ⟨_, hcall, hK _ _ _ ?_⟩
       clear hK K
       refine walkGF (And.intro hw2 hw4) ?_
       refine .next ⟨(i + 1, c + tbulk5 (d + 1) x), by simp only []; omega, by simp only []; omega, by simp only []; rw [← hbt, bitems5_step hx hcc.2]⟩ ?_ (by simp only []; omega)
       refine weakXF (@cells_mk) ?_
       exact ⟨cI (by omega), cI (by omega)⟩
     · have hcc : ¬ (i < xs.length ∧ c ≤ 2500) := by
        simp at hc
        omega
       obtain rfl : V = c := hbt.symm.trans (bitems5_end hcc)
       refine walkG ?_
       refine ⟨.inr rfl, ?_⟩
       rw [Tryz.results66]
       simp only [resOk, resV, go_sem, simprocAttr]
       exact .c _
/-! A tree that is not great is small. -/
theorem bkeys5_len : ∀ (ys : List (List UInt8)) (n m : Nat), bkeys5 n ys = some m → m ≤ 2500 → n + ys.length ≤ m ∧ ∀ y ∈ ys, y.length ≤ 2500
 | [], n, m, h, hm => by rw [bkeys5] at h; obtain rfl := Option.some.inj h; exact ⟨by simp, by simp⟩
 | y :: ys, n, m, h, hm => by
   rw [bkeys5] at h
   split at h
   · split at h
     · simp at h
     · obtain ⟨h1, h2⟩ := bkeys5_len ys _ m h hm
       refine ⟨by simp; omega, fun z hz => ?_⟩
       rcases List.mem_cons.1 hz with rfl | hz
       · omega
       · exact h2 z hz
   · obtain rfl := Option.some.inj h
     omega
mutual
theorem bulk_sm5 (d : Nat) : ∀ t : JT, tbulk5 d t ≤ 2500 → t.sm 2500
 | .mk k n s ks xs => fun h => by
   rw [tbulk5] at h
   split at h
   · omega
   · rename_i h1
     split at h
     · omega
     · rename_i m hm
       have h2 := bitems5_ge d xs m
       obtain ⟨_, h3⟩ := bkeys5_len ks _ m hm (by omega)
       exact ⟨by omega, by omega, h3, by omega, bitems5_sm d m xs h⟩
theorem bitems5_sm (d n : Nat) : ∀ xs : List JT, bitems5 d n xs ≤ 2500 → JT.smL 2500 xs
 | [] => fun _ => trivial
 | x :: xs => fun h => by
   rw [bitems5] at h
   split at h
   · have := bitems5_ge d xs (n + tbulk5 (d + 1) x)
     exact ⟨bulk_sm5 (d + 1) x (by omega), bitems5_sm d _ xs h⟩
   · omega
end

def textsL : Nat → List (List UInt8) → Nat
 | n, [] => n
 | n, y :: ys => if n ≤ 2500 then (if 2500 < y.length then 2501 else textsL (n + y.length) ys) else n
def textsB (l : List (List UInt8)) : Nat := if 2500 < l.length then 2501 else textsL l.length l
def fieldsB : Nat → List FT → Option Nat
 | n, [] => some n
 | n, f :: fs => if n ≤ 2500 then (if 2500 < f.name.length then none else fieldsB (n + f.name.length + textsB f.aliases + tbulk5 0 f.dflt) fs) else some n
def nodesB : Nat → List NT → Nat
 | n, [] => n
 | n, x :: xs => if n ≤ 2500 then (if 2500 < x.name.length ∨ 2500 < x.fields.length ∨ 2500 < x.branches.length ∨ 2500 < x.dflt.length then 2501 else
   match fieldsB (n + x.name.length + x.fields.length + x.branches.length + x.dflt.length + textsB x.aliases + textsB x.symbols) x.fields with | none => 2501 | some m => nodesB m xs) else n
def sbulk (s : ST) : Nat := if 2500 < s.nodes.length then 2501 else nodesB s.nodes.length s.nodes
def FT.sm (N : Nat) (f : FT) : Prop := f.name.length ≤ N ∧ f.aliases.length ≤ N ∧ (∀ y ∈ f.aliases, y.length ≤ N) ∧ f.dflt.sm N
def NT.sm (N : Nat) (n : NT) : Prop := n.name.length ≤ N ∧ n.dflt.length ≤ N ∧ (n.aliases.length ≤ N ∧ ∀ y ∈ n.aliases, y.length ≤ N) ∧ (n.symbols.length ≤ N ∧ ∀ y ∈ n.symbols, y.length ≤ N) ∧ n.branches.length ≤ N ∧ (n.fields.length ≤ N ∧ ∀ f ∈ n.fields, f.sm N)
def ST.sm (N : Nat) (s : ST) : Prop := s.nodes.length ≤ N ∧ ∀ n ∈ s.nodes, n.sm N
theorem textsL_le : ∀ (l : List (List UInt8)) (n : Nat), n ≤ 5000 → textsL n l ≤ 5000
 | [], n, h => h
 | y :: ys, n, h => by
   rw [textsL]
   split
   · split
     · omega
     · exact textsL_le ys _ (by omega)
   · exact h
theorem textsL_ge : ∀ (l : List (List UInt8)) (n : Nat), n ≤ 2500 ∨ True → textsL n l ≤ 2500 → n ≤ textsL n l ∧ ∀ y ∈ l, y.length ≤ 2500
 | [], n, _, _ => ⟨Nat.le_refl _, by simp⟩
 | y :: ys, n, _, h => by
   rw [textsL] at h ⊢
   split at h
   · rename_i h1
     rw [if_pos h1]
     split at h
     · omega
     · rename_i h2
       rw [if_neg h2]
       obtain ⟨h3, h4⟩ := textsL_ge ys _ (.inr trivial) h
       refine ⟨by omega, fun z hz => ?_⟩
       rcases List.mem_cons.1 hz with rfl | hz
       · omega
       · exact h4 z hz
   · omega
theorem textsB_le (l : List (List UInt8)) : textsB l ≤ 5000 := by
 unfold textsB
 split
 · omega
 · exact textsL_le l _ (by omega)
theorem textsB_sm {l : List (List UInt8)} (h : textsB l ≤ 2500) : l.length ≤ 2500 ∧ ∀ y ∈ l, y.length ≤ 2500 := by
 unfold textsB at h
 split at h
 · omega
 · rename_i h1
   exact ⟨by omega, (textsL_ge l _ (.inr trivial) h).2⟩
theorem tbulk5_top (t : JT) : tbulk5 0 t ≤ 200000 := by
 have := tbulk5_le 0 t
 omega
theorem fieldsB_le : ∀ (l : List FT) (n m : Nat), n ≤ 300000 → fieldsB n l = some m → m ≤ 300000
 | [], n, m, h, e => by rw [fieldsB] at e; obtain rfl := Option.some.inj e; exact h
 | f :: fs, n, m, h, e => by
   rw [fieldsB] at e
   have h1 := textsB_le f.aliases
   have h2 := tbulk5_top f.dflt
   split at e
   · split at e
     · simp at e
     · exact fieldsB_le fs _ m (by omega) e
   · obtain rfl := Option.some.inj e; exact h
theorem fieldsB_sm : ∀ (l : List FT) (n m : Nat), fieldsB n l = some m → m ≤ 2500 → n ≤ m ∧ ∀ f ∈ l, f.sm 2500
 | [], n, m, e, h => by rw [fieldsB] at e; obtain rfl := Option.some.inj e; exact ⟨Nat.le_refl _, by simp⟩
 | f :: fs, n, m, e, h => by
   rw [fieldsB] at e
   split at e
   · split at e
     · simp at e
     · rename_i h1 h2
       obtain ⟨h3, h4⟩ := fieldsB_sm fs _ m e h
       refine ⟨by omega, fun g hg => ?_⟩
       rcases List.mem_cons.1 hg with rfl | hg
       · obtain ⟨h5, h6⟩ := textsB_sm (l := g.aliases) (by omega)
         exact ⟨by omega, h5, h6, bulk_sm5 0 _ (by omega)⟩
       · exact h4 g hg
   · obtain rfl := Option.some.inj e
     omega
theorem nodesB_sm : ∀ (l : List NT) (n : Nat), nodesB n l ≤ 2500 → n ≤ nodesB n l ∧ ∀ x ∈ l, x.sm 2500
 | [], n, h => ⟨Nat.le_refl _, by simp⟩
 | x :: xs, n, h => by
   rw [nodesB] at h ⊢
   split at h
   · rename_i h1
     rw [if_pos h1]
     split at h
     · omega
     · rename_i h2
       rw [if_neg h2]
       split at h
       · omega
       · rename_i m hm
         obtain ⟨h3, h4⟩ := nodesB_sm xs m h
         obtain ⟨h5, h6⟩ := fieldsB_sm _ _ m hm (by omega)
         refine ⟨by omega, fun y hy => ?_⟩
         rcases List.mem_cons.1 hy with rfl | hy
         · exact ⟨by omega, by omega, textsB_sm (by omega), textsB_sm (by omega), by omega, by omega, h6⟩
         · exact h4 y hy
   · omega
theorem sbulk_sm {s : ST} (h : sbulk s ≤ 2500) : s.sm 2500 := by
 unfold sbulk at h
 split at h
 · omega
 · exact ⟨by omega, (nodesB_sm _ _ h).2⟩

theorem tyFn : tyA Tryz.prog 115 = some ⟨false, 1, 8, [.nilFunc], 0, [], 0, []⟩ := by kernel_rfl
theorem all1_told {g : FuncId} {x : List UInt8} {b : Bool} (h : Told Tryz.prog g [.c (.v (.string (str x)))] (.c (.v (.bool b)))) : Told Tryz.prog 181 [.c (.v (.string (str x))), .pp [fnP g]] (.c (.v (.bool (!b)))) := by
 unfold fnP
 refine VC.toldP ent_181 Tryz.func181 rfl Tryz.ntmps181 fun hb => ?_
 clear hb
 refine walkGF (@tyFn) ?_
 (refine AO.step fun K hK => ?_; simp only [go_sem, Int.reduceBEq, Int.reduceLE, Int.reduceLT, Int.reduceNeg, Nat.reduceAdd, Nat.reduceEqDiff, Nat.reduceLT, Nat.reduceLeDiff, Nat.reduceMul, Nat.reduceSub, reduceCtorEq, ↓reduceIte, tyFn]; (first | refine gsel_go ?_ | skip))
 refine ⟨_, h, hK _ _ _ ?_⟩
 clear hK K
 refine walkG ?_
 refine retX Tryz.results181 ?_
 exact .c _
theorem all_told {g : FuncId} {rule : List UInt8 → Bool} (l : List (List UInt8)) (hk : ∀ x ∈ l, Told Tryz.prog g [.c (.v (.string (str x)))] (.c (.v (.bool (rule x))))) :
  Told Tryz.prog 131 [.c (.sl 1 (l.map sPV)), .fn (.func g) [] []] (.c (.v (.bool (allM rule l)))) := by
 obtain ⟨V, hV⟩ : ∃ V, V = allM rule l := ⟨_, rfl⟩
 rw [← hV]
 have hF := cnfS_told (g := 181) (fs := []) (cs := [.pp [fnP g]]) rfl rfl l (fun x => !rule x) fun x hx => all1_told (hk x hx)
 have hv : V = (decide ((l.length : Int) ≤ 40) && !(l.any fun x => !rule x)) := by
  rw [hV, allM]
  congr 1
  · simp
    omega
  · rw [Bool.eq_iff_iff]
    simp
 clear hV
 replace hv := Lib.hid hv
 refine VC.toldP ent_131 Tryz.func131 rfl Tryz.ntmps131 fun hb => ?_
 clear hb
 refine VC.frz [] [(0, .c (.sl 1 (l.map sPV))), (1, .c (fnP g))] [] 0 ?_ ?_
 · simp only [WeakF, used_is, sc_any, sc_c, sc_pp, sc_ref, sc_row, sc_agg, sc_fn, ScL, some_imp, List.forall_mem_map, go_sem, Int.reduceBEq, Int.reduceLE, Int.reduceLT, Int.reduceNeg, Nat.reduceAdd, Nat.reduceEqDiff, Nat.reduceLT, Nat.reduceLeDiff, Nat.reduceMul, Nat.reduceSub, reduceCtorEq, ↓reduceIte]
   exact ⟨.same _, .fnV⟩
 (refine VC.seq ?_; (first | refine VC.region (by rfl) (by rfl) ?_ | refine VC.draw mixP (by rfl) (by rfl) ?_); (repeat (refine AO.step fun K hK => ?_; simp only [go_sem, Int.reduceBEq, Int.reduceLE, Int.reduceLT, Int.reduceNeg, Nat.reduceAdd, Nat.reduceEqDiff, Nat.reduceLT, Nat.reduceLeDiff, Nat.reduceMul, Nat.reduceSub, reduceCtorEq, ↓reduceIte]; (first | refine gsel_skip ?_ | refine gsel_go ?_ | skip); (first | refine hK _ _ _ ?_ | refine ⟨by first | omega | exact ⟨_, rfl, rfl⟩ | exact fun _ => ⟨_, rfl, rfl⟩ | (intro h; simp only [h, true_and]; omega) | (clear hK; intro h; simp_all <;> omega), hK _ _ _ ?_⟩); clear hK K)); refine AO.nil ?_; first | refine SQ.normal ?_ | refine ⟨okd_of (by kernel_rfl), SQ.normal ?_⟩)
 refine VC.frz [0] [(0, .c (.sl 1 (l.map sPV))), (3, .pp [fnP g])] [] 400 ?_ ?_
 · simp only [WeakF, used_is, sc_any, sc_c, sc_pp, sc_ref, sc_row, sc_agg, sc_fn, ScL, some_imp, List.forall_mem_map, go_sem, Int.reduceBEq, Int.reduceLE, Int.reduceLT, Int.reduceNeg, Nat.reduceAdd, Nat.reduceEqDiff, Nat.reduceLT, Nat.reduceLeDiff, Nat.reduceMul, Nat.reduceSub, reduceCtorEq, ↓reduceIte]
   exact ⟨.same _, .ref (es := [fnP g]) (by simp) rfl rfl rfl rfl⟩
 refine walkG ?_
 refine walkD (hF) ?_
 refine walkG ?_
 refine retX Tryz.results131 ?_
 rw [hv.out]
 exact .c _
theorem kids_told (n : NT) (hn : n.sm 1000000) : Told Tryz.prog 36 [n.av] (.c (.sl 1 ((kidsN n).map iPV))) := by
 obtain ⟨L, hL⟩ : ∃ L, L = kidsN n := ⟨_, rfl⟩
 rw [← hL]
 unfold kidsN at hL
 have hfl := hn.2.2.2.2.2.1
 have hbl := hn.2.2.2.2.1
 rw [NT.av_eq, ncells_mk]
 refine VC.toldP ent_36 Tryz.func36 rfl Tryz.ntmps36 fun hb => ?_
 clear hb
 by_cases h9 : n.kind = 9
 · rw [if_pos h9] at hL
   subst hL
   rw [h9]
   refine walkB ?_
   refine VC.nil 3 3 1 (by rfl) (by trivial) (by rfl) ?_
   refine VC.loop (ι := {i : Nat // i ≤ n.fields.length}) (fun q => [(3, .row 88 q.1), (11, .c (.sl 9 (n.fields.map FT.cells))), (12, .c (.v (.int .i64 (n.fields.length : Int)))), (13, .c (.v (.int .i64 (q.1 : Int))))])
    (fun q => [(88, ⟨true, 3, 1, rA iPV ((n.fields.map (·.type)).take q.1)⟩)]) 800 (fun q => n.fields.length - q.1) ⟨0, Nat.zero_le _⟩ ?_ ?_
   · simp only [rA_len, rA_sc, rA_nil, Weak, eq_self, used_is, sc_any, sc_c, sc_pp, sc_ref, sc_row, sc_agg, sc_fn, ScL, some_imp, List.forall_mem_map, go_sem, Int.reduceBEq, Int.reduceLE, Int.reduceLT, Int.reduceNeg, Nat.reduceAdd, Nat.reduceEqDiff, Nat.reduceLT, Nat.reduceLeDiff, Nat.reduceMul, Nat.reduceSub, reduceCtorEq, ↓reduceIte]
     try simp
   rintro ⟨i, hi⟩
   simp only []
   refine walkG ?_
   refine VC.cond (by rfl) (by trivial) (fun hc => ?_) (fun hc => ?_)
   · have hlt : i < n.fields.length := by simp at hc; omega
     obtain ⟨f, hx⟩ : ∃ f, n.fields[i]? = some f := ⟨n.fields[i], List.getElem?_eq_getElem hlt⟩
     have hw : IntKind.i64.wrap ((i : Int) + 1) = (i : Int) + 1 := wrap64_id (by omega) (by omega)
     have hxp : (n.fields.map FT.cells)[i]? = some f.cells := by rw [List.getElem?_map, hx]; rfl
     have hl : (rA iPV ((n.fields.map (·.type)).take i)).length = i := by rw [rA_len]; simp; omega
     have hr : rA iPV ((n.fields.map (·.type)).take i) ++ [[.c (.v (.int .i64 f.type))]] = rA iPV ((n.fields.map (·.type)).take (i + 1)) := by
      rw [List.take_add_one, List.getElem?_map, hx]
      exact rA_one iPV _ f.type
     have hl2 : (rA iPV ((n.fields.map (·.type)).take (i + 1))).length = i + 1 := by rw [rA_len]; simp; omega
     refine walkGF (And.intro hxp (And.intro @fcells_mk (And.intro @len_cells (And.intro @take_cells (And.intro @take_cellsC (And.intro hl (And.intro hr hw))))))) ?_
     refine .next ⟨i + 1, by omega⟩ ?_ (by simp only []; omega)
     refine weakXF (And.intro hl2 @rA_sc) ?_
     exact ⟨cI (by omega), Nat.le_refl _⟩
   · have hie : i = n.fields.length := by simp at hc; omega
     have htk : (n.fields.map (·.type)).take i = n.fields.map (·.type) := List.take_of_length_le (by simp; omega)
     rw [htk]
     refine walkGF (hie) ?_
     refine retX Tryz.results36 ?_
     apply frz_rA (f := iPV) (l := n.fields.map (·.type)) (T := 3)
     · rfl
     · simp [hie]
     · rfl
     · simp [iPV]
 by_cases h11 : n.kind = 11
 · rw [if_neg h9, if_pos (.inl h11)] at hL
   subst hL
   rw [h11]
   refine walkB ?_
   refine retX Tryz.results36 ?_
   exact frz_rA (f := iPV) (l := [n.items]) rfl rfl rfl (by simp [iPV])
 by_cases h12 : n.kind = 12
 · rw [if_neg h9, if_pos (.inr h12)] at hL
   subst hL
   rw [h12]
   refine walkB ?_
   refine retX Tryz.results36 ?_
   exact frz_rA (f := iPV) (l := [n.items]) rfl rfl rfl (by simp [iPV])
 by_cases h13 : n.kind = 13
 · rw [if_neg h9, if_neg (by simp [h11, h12]), if_pos h13] at hL
   subst hL
   rw [h13]
   refine walkB ?_
   refine retX Tryz.results36 ?_
   refine frz_rA (f := iPV) (l := n.branches) (T := 3) ?_ ?_ rfl (by simp [iPV])
   · simp [upd_at, rA_pv]
   · simp
 · rw [if_neg h9, if_neg (by simp [h11, h12]), if_neg h13] at hL
   subst hL
   have e9 : (n.kind == 9) = false := by simpa using h9
   have e11 : (n.kind == 11) = false := by simpa using h11
   have e12 : (n.kind == 12) = false := by simpa using h12
   have e13 : (n.kind == 13) = false := by simpa using h13
   refine walkBF (And.intro e9 (And.intro e11 (And.intro e12 e13))) ?_
   refine retX Tryz.results36 ?_
   exact .nil _

theorem bareM_eq (n : NT) : bareM n = (!(if namedK n.kind = true then false else (!(n.name == []) || decide ((n.aliases.length : Int) > 0))) && (!(if n.kind == 9 then false else decide ((n.fields.length : Int) > 0)) &&
  (!(if n.kind == 10 then false else (decide ((n.symbols.length : Int) > 0) || n.has || !(n.dflt == []))) && (!(if n.kind == 14 then false else n.size != 0) && (!(if (n.kind == 11) = true ∨ (n.kind == 12) = true then false else n.items != 0) && !(if n.kind == 13 then false else decide ((n.branches.length : Int) > 0))))))) := by
 have e0 : ∀ l : List UInt8, l.isEmpty = (l == []) := fun l => by cases l <;> rfl
 have e1 : ∀ {α : Type} (l : List α), l.isEmpty = !decide ((l.length : Int) > 0) := fun l => by
  cases l with
  | nil => rfl
  | cons x l => simp
 unfold bareM
 rw [e0 n.name, e0 n.dflt, e1 n.aliases, e1 n.fields, e1 n.symbols, e1 n.branches]
 cases namedK n.kind <;> cases (n.kind == 9) <;> cases (n.kind == 10) <;> cases (n.kind == 14) <;> cases (n.kind == 11) <;> cases (n.kind == 12) <;> cases (n.kind == 13) <;> simp [bne, Bool.and_assoc]
theorem bare_told (n : NT) : Told Tryz.prog 129 [n.av] (.c (.v (.bool (bareM n)))) := by
 obtain ⟨V, hV⟩ : ∃ V, V = bareM n := ⟨_, rfl⟩
 rw [← hV]
 rw [bareM_eq] at hV
 have hN := named_told n.kind
 have hE : (⟨#[]⟩ : ByteArray).toList = [] := str_toList []
 rw [NT.av_eq, ncells_mk]
 refine VC.toldP ent_129 Tryz.func129 rfl Tryz.ntmps129 fun hb => ?_
 clear hb
 refine walkGF (And.intro @str_toList hE) ?_
 obtain ⟨p1, hp1⟩ : ∃ p : Bool, p = (!(n.name == []) || decide ((n.aliases.length : Int) > 0)) := ⟨_, rfl⟩
 obtain ⟨p2, hp2⟩ : ∃ p : Bool, p = decide ((n.fields.length : Int) > 0) := ⟨_, rfl⟩
 obtain ⟨p3, hp3⟩ : ∃ p : Bool, p = (decide ((n.symbols.length : Int) > 0) || n.has || !(n.dflt == [])) := ⟨_, rfl⟩
 obtain ⟨p4, hp4⟩ : ∃ p : Bool, p = (n.size != 0) := ⟨_, rfl⟩
 obtain ⟨p5, hp5⟩ : ∃ p : Bool, p = (n.items != 0) := ⟨_, rfl⟩
 obtain ⟨p6, hp6⟩ : ∃ p : Bool, p = decide ((n.branches.length : Int) > 0) := ⟨_, rfl⟩
 rw [← hp1, ← hp2, ← hp3, ← hp4, ← hp5, ← hp6] at hV ⊢
 clear hp1 hp2 hp3 hp4 hp5 hp6
 refine walkC (hN) ?_
 by_cases h9 : n.kind = 9
 · rw [h9] at hV ⊢
   have hv : V = (!p3 && !p4 && !p5 && !p6) := by rw [hV]; simp [namedK, Bool.and_assoc]
   clear hV
   have hn : namedK 9 = true := rfl
   refine walkBF (hn) ?_
   refine retX Tryz.results129 ?_
   refine frz_c ?_
   rw [hv]
   try simp [Bool.and_assoc]
 by_cases h10 : n.kind = 10
 · rw [h10] at hV ⊢
   have hv : V = (!p2 && !p4 && !p5 && !p6) := by rw [hV]; simp [namedK, Bool.and_assoc]
   clear hV
   have hn : namedK 10 = true := rfl
   refine walkBF (hn) ?_
   refine retX Tryz.results129 ?_
   refine frz_c ?_
   rw [hv]
   try simp [Bool.and_assoc]
 by_cases h14 : n.kind = 14
 · rw [h14] at hV ⊢
   have hv : V = (!p2 && !p3 && !p5 && !p6) := by rw [hV]; simp [namedK, Bool.and_assoc]
   clear hV
   have hn : namedK 14 = true := rfl
   refine walkBF (hn) ?_
   refine retX Tryz.results129 ?_
   refine frz_c ?_
   rw [hv]
   try simp [Bool.and_assoc]
 by_cases h11 : n.kind = 11
 · rw [h11] at hV ⊢
   have hv : V = (!p1 && !p2 && !p3 && !p4 && !p6) := by rw [hV]; simp [namedK, Bool.and_assoc]
   clear hV
   have hn : namedK 11 = false := rfl
   refine walkBF (hn) ?_
   refine retX Tryz.results129 ?_
   refine frz_c ?_
   rw [hv]
   try simp [Bool.and_assoc]
 by_cases h12 : n.kind = 12
 · rw [h12] at hV ⊢
   have hv : V = (!p1 && !p2 && !p3 && !p4 && !p6) := by rw [hV]; simp [namedK, Bool.and_assoc]
   clear hV
   have hn : namedK 12 = false := rfl
   refine walkBF (hn) ?_
   refine retX Tryz.results129 ?_
   refine frz_c ?_
   rw [hv]
   try simp [Bool.and_assoc]
 by_cases h13 : n.kind = 13
 · rw [h13] at hV ⊢
   have hv : V = (!p1 && !p2 && !p3 && !p4 && !p5) := by rw [hV]; simp [namedK, Bool.and_assoc]
   clear hV
   have hn : namedK 13 = false := rfl
   refine walkBF (hn) ?_
   refine retX Tryz.results129 ?_
   refine frz_c ?_
   rw [hv]
   try simp [Bool.and_assoc]
 · have e9 : (n.kind == 9) = false := by simpa using h9
   have e10 : (n.kind == 10) = false := by simpa using h10
   have e14 : (n.kind == 14) = false := by simpa using h14
   have e11 : (n.kind == 11) = false := by simpa using h11
   have e12 : (n.kind == 12) = false := by simpa using h12
   have e13 : (n.kind == 13) = false := by simpa using h13
   have hn : namedK n.kind = false := by simp [namedK, h9, h10, h14]
   have hv : V = (!p1 && !p2 && !p3 && !p4 && !p5 && !p6) := by rw [hV, hn]; simp [h9, h10, h14, h11, h12, h13, Bool.and_assoc]
   clear hV
   rw [hn]
   refine walkBF (And.intro e9 (And.intro e10 (And.intro e14 (And.intro e11 (And.intro e12 e13))))) ?_
   refine retX Tryz.results129 ?_
   refine frz_c ?_
   rw [hv]

theorem view_jzero (h : Nat → Option Blkd) : View h (.agg [.c (.v (.int .i64 0)), .c (.v (.int .i64 0)), .c (.v (.string ⟨#[]⟩)), .c (.v (.slice none 0 0)), .c (.v (.slice none 0 0))]) jzero.av := by
 refine .agg rfl fun k x y h1 h2 => ?_
 match k with
 | 0 => obtain rfl := Option.some.inj h1; obtain rfl := Option.some.inj h2; exact .same _
 | 1 => obtain rfl := Option.some.inj h1; obtain rfl := Option.some.inj h2; exact .same _
 | 2 => obtain rfl := Option.some.inj h1; obtain rfl := Option.some.inj h2; exact .same _
 | 3 => obtain rfl := Option.some.inj h1; obtain rfl := Option.some.inj h2; exact .nil 5
 | 4 => obtain rfl := Option.some.inj h1; obtain rfl := Option.some.inj h2; exact .nil 1
 | k + 5 => simp at h1
theorem fieldM_eq (f : FT) : fieldM f = !((!allM simpleM f.aliases || f.has && !jR f.dflt) || !f.has && !jeq f.dflt jzero) := by
 unfold fieldM
 cases f.has <;> simp
theorem fields_told (l : List FT) (hl : l.length ≤ 1000000) (hs : ∀ f ∈ l, f.sm 1000000) : Told Tryz.prog 132 [.c (.sl 9 (l.map FT.cells))] (.c (.v (.bool (fieldsM l)))) := by
 obtain ⟨V, hV⟩ : ∃ V, V = fieldsM l := ⟨_, rfl⟩
 rw [← hV]
 refine VC.toldP ent_132 Tryz.func132 rfl Tryz.ntmps132 fun hb => ?_
 clear hb
 refine walkG ?_
 refine VC.nil 3 9 1 (by rfl) (by trivial) (by rfl) ?_
 refine VC.loop (ι := {i : Nat // i ≤ l.length ∧ ∀ (j : Nat) (f : FT), j < i → l[j]? = some f → fieldM f = true}) (fun q => [(0, .c (.sl 9 (l.map FT.cells))), (3, .row 40 q.1), (6, .c (.sl 9 (l.map FT.cells))), (7, .c (.v (.int .i64 (l.length : Int)))), (8, .c (.v (.int .i64 (q.1 : Int))))])
  (fun q => [(40, ⟨true, 9, 1, rA sPV ((l.map (·.name)).take q.1)⟩)]) 800 (fun q => l.length - q.1) ⟨0, Nat.zero_le _, fun j f h => by omega⟩ ?_ ?_
 · exact weakZF (And.intro @rA_len (And.intro @rA_sc @rA_nil))
 rintro ⟨i, hi, ht⟩
 simp only []
 refine walkG ?_
 refine VC.cond (by rfl) (by trivial) (fun hc => ?_) (fun hc => ?_)
 · have hlt : i < l.length := by simp at hc; omega
   obtain ⟨f, hx⟩ : ∃ f, l[i]? = some f := ⟨l[i], List.getElem?_eq_getElem hlt⟩
   have hw : IntKind.i64.wrap ((i : Int) + 1) = (i : Int) + 1 := wrap64_id (by omega) (by omega)
   have hxp : (l.map FT.cells)[i]? = some f.cells := by rw [List.getElem?_map, hx]; rfl
   have hln : (rA sPV ((l.map (·.name)).take i)).length = i := by rw [rA_len]; simp; omega
   have hr : rA sPV ((l.map (·.name)).take i) ++ [[.c (.v (.string (str f.name)))]] = rA sPV ((l.map (·.name)).take (i + 1)) := by
    rw [List.take_add_one, List.getElem?_map, hx]
    exact rA_one sPV _ f.name
   have hl2 : (rA sPV ((l.map (·.name)).take (i + 1))).length = i + 1 := by rw [rA_len]; simp; omega
   obtain ⟨hn1, ha1, ha2, hd⟩ := hs f (List.mem_of_getElem? hx)
   have hA := all_told (g := 134) (rule := simpleM) f.aliases fun x hx => simple_told x (by have := ha2 x hx; omega)
   have hR := jRight_told f.dflt (sm_le (by omega) _ hd)
   have hS := same_told _ f.dflt jzero (Nat.le_refl _)
   simp only [JT.av] at hR
   have hM := fieldM_eq f
   obtain ⟨b1, hb1⟩ : ∃ b, b = allM simpleM f.aliases := ⟨_, rfl⟩
   obtain ⟨b2, hb2⟩ : ∃ b, b = jR f.dflt := ⟨_, rfl⟩
   obtain ⟨b3, hb3⟩ : ∃ b, b = jeq f.dflt jzero := ⟨_, rfl⟩
   rw [← hb1, ← hb2, ← hb3] at hM
   rw [← hb1] at hA
   rw [← hb2] at hR
   rw [← hb3] at hS
   replace hM := Lib.hid hM
   clear hb1 hb2 hb3 ha1 ha2 hd
   refine walkGF (And.intro hxp (And.intro @fcells_mk (And.intro @len_cells (And.intro @take_cells (And.intro @take_cellsC (And.intro hln hr)))))) ?_
   refine walkC (hA) ?_
   refine walkGF (And.intro @fcells_mk (And.intro @len_cells (And.intro @take_cells @take_cellsC))) ?_
   refine walkDF (@pureL_c) (hR) ?_
   refine walkGF (And.intro @fcells_mk (And.intro @len_cells (And.intro @take_cells @take_cellsC))) ?_
   (refine AO.step fun K hK => ?_; simp only [go_sem, Int.reduceBEq, Int.reduceLE, Int.reduceLT, Int.reduceNeg, Nat.reduceAdd, Nat.reduceEqDiff, Nat.reduceLT, Nat.reduceLeDiff, Nat.reduceMul, Nat.reduceSub, reduceCtorEq, ↓reduceIte]; (first | refine gsel_go ?_ | skip))
   refine .inr (.inl ⟨.c (.v (.bool b3)), [f.dflt.av, jzero.av], [], fun hg => ⟨hg, by simp [AV.pureL, AV.pureB, JT.av, pureL_c], rfl, fun k x z h5 h6 => ?_, rfl, hS⟩, hK _ _ _ ?_⟩)
   · match k with
     | 0 => obtain rfl := Option.some.inj h5; obtain rfl := Option.some.inj h6; exact .same _
     | 1 => obtain rfl := Option.some.inj h5; obtain rfl := Option.some.inj h6; exact view_jzero _
     | k + 2 => simp at h5
   clear hK K
   refine walkG ?_
   refine VC.cond (by rfl) (by trivial) (fun hc2 => ?_) (fun hc2 => ?_)
   · have hf : V = false := by
      have : fieldM f = false := by
       rw [hM.out, hc2]
       rfl
      have h2 : l.all fieldM = false := by
       rw [List.all_eq_false]
       exact ⟨f, List.mem_of_getElem? hx, by simp [this]⟩
      rw [hV, fieldsM, h2]
      rfl
     subst hf
     refine walkG ?_
     refine retX Tryz.results132 ?_
     exact .c _
   · have hft : fieldM f = true := by
      rw [hM.out, hc2]
      rfl
     refine walkGF (hw) ?_
     refine .next ⟨i + 1, by omega, ?_⟩ ?_ (by simp only []; omega)
     · intro j g hj hg
       by_cases hji : j < i
       · exact ht j g hji hg
       · obtain rfl : j = i := by omega
         rw [hx] at hg
         obtain rfl := Option.some.inj hg
         exact hft
     refine weakXF (And.intro hl2 @rA_sc) ?_
     exact ⟨cI (by omega), Nat.le_refl _⟩
 · have hie : i = l.length := by simp at hc; omega
   have htk : (l.map (·.name)).take i = l.map (·.name) := List.take_of_length_le (by simp; omega)
   have hall : l.all fieldM = true := by
    rw [List.all_eq_true]
    intro f hf
    obtain ⟨j, hj⟩ := List.getElem?_of_mem hf
    exact ht j f (by have := (List.getElem?_eq_some_iff.1 hj).1; omega) hj
   have hD := different_told (g := 134) (rule := simpleM) (l.map (·.name)) (by simp; omega) fun x hx => by
    obtain ⟨f, hf, rfl⟩ := List.mem_map.1 hx
    exact simple_told f.name (by have := (hs f hf).1; omega)
   have hv : V = (decide ((l.length : Int) ≤ 40) && diffM simpleM (l.map (·.name))) := by
    rw [hV, fieldsM, hall, Bool.true_and]
    congr 1
    simp
    omega
   clear hV
   replace hv := Lib.hid hv
   rw [htk]
   have hrl : (rA sPV (l.map (·.name))).length = i := by rw [rA_len]; simp; omega
   refine walkGF (hrl) ?_
   (refine AO.step fun K hK => ?_; simp only [go_sem, Int.reduceBEq, Int.reduceLE, Int.reduceLT, Int.reduceNeg, Nat.reduceAdd, Nat.reduceEqDiff, Nat.reduceLT, Nat.reduceLeDiff, Nat.reduceMul, Nat.reduceSub, reduceCtorEq, ↓reduceIte, hrl]; (first | refine gsel_go ?_ | skip))
   refine .inr (.inl ⟨.c (.v (.bool (diffM simpleM (l.map (·.name))))), [.c (.sl 1 ((l.map (·.name)).map sPV)), .fn (.func 134) [] []], [40], fun hg => ⟨hg, by simp [AV.pureL, AV.pureB], rfl, fun k x z h5 h6 => ?_, rfl, hD⟩, hK _ _ _ ?_⟩)
   · match k with
     | 0 =>
       obtain rfl := Option.some.inj h5
       obtain rfl := Option.some.inj h6
       exact View.row (B := ⟨true, 9, 1, rA sPV (l.map fun f : FT => f.name)⟩) (es := (l.map fun f : FT => f.name).map sPV) rfl rfl hrl (rA_pv _ _)
     | 1 => obtain rfl := Option.some.inj h5; obtain rfl := Option.some.inj h6; exact .same _
     | k + 2 => simp at h5
   clear hK K
   refine walkG ?_
   refine retX Tryz.results132 ?_
   rw [hv.out]
   exact .c _

theorem ixfI_told {g : FuncId} {fs cs : List AV} (hp : AV.pureL fs = true) (hp' : AV.pureL cs = true) (l : List (Int)) (p : Int → Bool) (hk : ∀ x ∈ l, Told Tryz.prog g (fs ++ ([.c (.v (.int .i64 x))] ++ cs)) (.c (.v (.bool (p x))))) :
  Told Tryz.prog 213 [.c (.sl 1 (l.map iPV)), .fn (.func g) fs cs] (.c (.v (.int .i64 (idxP p l)))) := by
 refine VC.told ent_213 Tryz.func213 rfl Tryz.ntmps213 (by simp) (by simp [AV.pureB, AV.pureL, hp, hp']) rfl fun hb => ?_
 simp only [List.mem_cons, List.not_mem_nil, or_false, forall_eq_or_imp, forall_eq, abd_c, pbd_sl, List.length_map] at hb
 have h1 := hb.1.1
 clear hb
 refine walkG ?_
 refine VC.loop (ι := {i : Nat // i ≤ l.length ∧ ∀ j x, j < i → l[j]? = some x → p x = false}) (fun i => [(0, .c (.sl 1 (l.map iPV))), (1, .fn (.func g) fs cs), (7, .c (.v (.int .i64 l.length))), (8, .c (.v (.int .i64 i.1)))]) (fun _ => []) 0 (fun i => l.length - i.1) ⟨0, Nat.zero_le _, by intro j x hj; omega⟩ ?_ ?_
 · simp only [sc_pureL hp, sc_pureL hp', Weak, eq_self, used_is, sc_any, sc_c, sc_pp, sc_ref, sc_row, sc_agg, sc_fn, ScL, some_imp, List.forall_mem_map, go_sem, Int.reduceBEq, Int.reduceLE, Int.reduceLT, Int.reduceNeg, Nat.reduceAdd, Nat.reduceEqDiff, Nat.reduceLT, Nat.reduceLeDiff, Nat.reduceMul, Nat.reduceSub, reduceCtorEq, ↓reduceIte]
   all_goals rfl
 rintro ⟨i, hi, ht⟩
 refine walkG ?_
 refine VC.cond (by rfl) (by trivial) (fun hc => ?_) (fun hc => ?_)
 · simp only [decide_eq_true_eq] at hc
   obtain ⟨x, hx⟩ : ∃ x, l[i]? = some x := ⟨l[i]'(by omega), List.getElem?_eq_getElem _⟩
   have hw : IntKind.i64.wrap ((i : Int) + 1) = (i : Int) + 1 := wrap64_id (by omega) (by omega)
   have hkx := hk x (List.mem_of_getElem? hx)
   (repeat (first | refine pass ?_ | refine VC.region (by rfl) (by rfl) ?_ | (refine AO.step fun K hK => ?_; simp only [List.getElem?_map, hx, iPV, go_sem, Int.reduceBEq, Int.reduceLE, Int.reduceLT, Int.reduceNeg, Nat.reduceAdd, Nat.reduceEqDiff, Nat.reduceLT, Nat.reduceLeDiff, Nat.reduceMul, Nat.reduceSub, reduceCtorEq, ↓reduceIte]; (first | refine gsel_skip ?_ | refine gsel_go ?_ | skip); (first | refine hK _ _ _ ?_ | refine ⟨by first | omega | exact ⟨_, rfl, rfl⟩ | exact fun _ => ⟨_, rfl, rfl⟩ | (intro h; simp only [List.getElem?_map, hx, iPV, h, true_and]; omega) | (clear hK; intro h; simp_all <;> omega), hK _ _ _ ?_⟩); clear hK K) | refine VC.draw mixP (by rfl) (by rfl) ?_ | refine ⟨okd_of (by kernel_rfl), ?_⟩ | refine BQ.other (by decide) ?_ | refine VC.seq ?_ | refine AO.nil ?_ | refine VC.block ?_))
   ((refine AO.step fun K hK => ?_; simp only [go_sem, Int.reduceBEq, Int.reduceLE, Int.reduceLT, Int.reduceNeg, Nat.reduceAdd, Nat.reduceEqDiff, Nat.reduceLT, Nat.reduceLeDiff, Nat.reduceMul, Nat.reduceSub, reduceCtorEq, ↓reduceIte, iPV, hp, hp', pureL_app, pureL_c, List.append_assoc]; (first | refine gsel_go ?_ | skip)); refine .inl ⟨_, hkx, hK _ _ _ ?_⟩; clear hK K)
   refine walkG ?_
   refine VC.cond (by rfl) (by trivial) (fun hpx => ?_) (fun hpx => ?_)
   · have hr := idxP_at hx hpx ht
     refine walkG ?_
     refine retX Tryz.results213 ?_
     rw [hr]
     exact .c _
   · refine walkGF (hw) ?_
     refine .next ⟨i + 1, by omega, fun j y hj hy => ?_⟩ ?_ (by simp only []; omega)
     · rcases Nat.lt_or_ge j i with h | h
       · exact ht j y h hy
       · obtain rfl : j = i := by omega
         rw [hx] at hy
         obtain rfl := Option.some.inj hy
         exact hpx
     simp only [sc_pureL hp, sc_pureL hp', Weak, eq_self, used_is, sc_any, sc_c, sc_pp, sc_ref, sc_row, sc_agg, sc_fn, ScL, some_imp, List.forall_mem_map, go_sem, Int.reduceBEq, Int.reduceLE, Int.reduceLT, Int.reduceNeg, Nat.reduceAdd, Nat.reduceEqDiff, Nat.reduceLT, Nat.reduceLeDiff, Nat.reduceMul, Nat.reduceSub, reduceCtorEq, ↓reduceIte]
     exact cI (by omega)
 · simp only [decide_eq_false_iff_not] at hc
   obtain rfl : i = l.length := by omega
   have hr := idxP_none ht
   refine walkG ?_
   refine retX Tryz.results213 ?_
   rw [hr]
   exact .c _
theorem cnfI_told {g : FuncId} {fs cs : List AV} (hp : AV.pureL fs = true) (hp' : AV.pureL cs = true) (l : List (Int)) (p : Int → Bool) (hk : ∀ x ∈ l, Told Tryz.prog g (fs ++ ([.c (.v (.int .i64 x))] ++ cs)) (.c (.v (.bool (p x))))) :
  Told Tryz.prog 183 [.c (.sl 1 (l.map iPV)), .fn (.func g) fs cs] (.c (.v (.bool (l.any p)))) := by
 have hi := ixfI_told hp hp' l p hk
 refine VC.told ent_183 Tryz.func183 rfl Tryz.ntmps183 (by simp) (by simp [AV.pureB, AV.pureL, hp, hp']) rfl fun hb => ?_
 clear hb
 refine walkG ?_
 refine walkCF (And.intro hp hp') (hi) ?_
 refine walkG ?_
 refine retX Tryz.results183 ?_
 exact frz_c (by rw [idxP_any])

theorem kindAt_of {ns : List NT} {j : Nat} {n : NT} (h : ns[j]? = some n) : kindAt ns j = n.kind := by rw [kindAt, h]
theorem union1_told (s : ST) (j : Nat) (k kind : Int) (hj : j < s.nodes.length) :
  Told Tryz.prog 184 [.c (.v (.int .i64 (j : Int))), .pp [.v (.int .i64 k)], .pp [.v (.int .i64 kind)], .pp s.cells] (.c (.v (.bool ((j : Int) == k || (!namedK kind && kindAt s.nodes j == kind))))) := by
 obtain ⟨n, hn⟩ : ∃ n, s.nodes[j]? = some n := ⟨s.nodes[j], List.getElem?_eq_getElem hj⟩
 have hnp : (s.nodes.map NT.cells)[j]? = some n.cells := by rw [List.getElem?_map, hn]; rfl
 rw [kindAt_of hn]
 have hN := named_told kind
 rw [scells_mk]
 refine VC.toldP ent_184 Tryz.func184 rfl Tryz.ntmps184 fun hb => ?_
 clear hb
 refine walkG ?_
 refine walkD (hN) ?_
 refine walkGF (And.intro hnp @ncells_mk) ?_
 refine retX Tryz.results184 ?_
 exact .c _
theorem drop_at {α : Type} {l : List α} {i : Nat} {x : α} (h : l[i]? = some x) : l.drop i = x :: l.drop (i + 1) := by
 obtain ⟨hlt, rfl⟩ := List.getElem?_eq_some_iff.1 h
 exact List.drop_eq_getElem_cons hlt
theorem union_told (s : ST) (l : List Int) (hl : ∀ k ∈ l, 0 ≤ k ∧ k < (s.nodes.length : Int)) (hlen : l.length ≤ 1000000) :
  Told Tryz.prog 135 [s.av, .c (.sl 1 (l.map iPV))] (.c (.v (.bool (unionM s.nodes l)))) := by
 obtain ⟨V, hV⟩ : ∃ V, V = unionM s.nodes l := ⟨_, rfl⟩
 rw [← hV]
 unfold unionM at hV
 rw [ST.av_eq, scells_mk]
 refine VC.toldP ent_135 Tryz.func135 rfl Tryz.ntmps135 fun hb => ?_
 clear hb
 refine walkG ?_
 refine VC.cond (by rfl) (by trivial) (fun hc => ?_) (fun hc => ?_)
 · have hf : V = false := by
    have : ¬ (1 ≤ l.length ∧ l.length ≤ 10) := by simp at hc; omega
    rw [hV]
    by_cases h1 : 1 ≤ l.length
    · have : ¬ l.length ≤ 10 := fun h => this ⟨h1, h⟩
      simp [this]
    · simp [h1]
   subst hf
   refine walkG ?_
   refine retX Tryz.results135 ?_
   exact .c _
 have hv : branchesM s.nodes [] l = V := by
  have h1 : 1 ≤ l.length ∧ l.length ≤ 10 := by simp at hc; omega
  rw [hV]
  simp [h1.1, h1.2]
 clear hV hc
 refine VC.frz [0] [(1, .c (.sl 1 (l.map iPV))), (2, .pp [.sl 10 (s.nodes.map NT.cells), .v (.int .i64 s.root)])] [] 400 ?_ ?_
 · simp only [WeakF, used_is, sc_any, sc_c, sc_pp, sc_ref, sc_row, sc_agg, sc_fn, ScL, some_imp, List.forall_mem_map, go_sem, Int.reduceBEq, Int.reduceLE, Int.reduceLT, Int.reduceNeg, Nat.reduceAdd, Nat.reduceEqDiff, Nat.reduceLT, Nat.reduceLeDiff, Nat.reduceMul, Nat.reduceSub, reduceCtorEq, ↓reduceIte]
   exact ⟨.same _, .ref (es := [.sl 10 (s.nodes.map NT.cells), .v (.int .i64 s.root)]) (by simp) rfl rfl rfl rfl⟩
 refine walkG ?_
 refine VC.loop (ι := {i : Nat // i ≤ l.length ∧ branchesM s.nodes (l.take i) (l.drop i) = V})
  (fun q => [(1, .c (.sl 1 (l.map iPV))), (2, .pp [.sl 10 (s.nodes.map NT.cells), .v (.int .i64 s.root)]), (16, .c (.sl 1 (l.map iPV))), (17, .c (.v (.int .i64 (l.length : Int)))), (18, .c (.v (.int .i64 (q.1 : Int))))]) (fun q => []) 800 (fun q => l.length - q.1) ⟨0, Nat.zero_le _, by simpa using hv⟩ ?_ ?_
 · exact weakZ
 clear hv
 rintro ⟨i, hi, hv⟩
 simp only []
 refine walkG ?_
 refine VC.cond (by rfl) (by trivial) (fun hc => ?_) (fun hc => ?_)
 · have hlt : i < l.length := by simp at hc; omega
   obtain ⟨x, hx⟩ : ∃ x, l[i]? = some x := ⟨l[i], List.getElem?_eq_getElem hlt⟩
   obtain ⟨h0, h1⟩ := hl x (List.mem_of_getElem? hx)
   obtain ⟨p, rfl⟩ : ∃ p : Nat, x = (p : Int) := ⟨x.toNat, by omega⟩
   have hp : p < s.nodes.length := by omega
   obtain ⟨n, hn⟩ : ∃ n, s.nodes[p]? = some n := ⟨s.nodes[p], List.getElem?_eq_getElem hp⟩
   have hnp : (s.nodes.map NT.cells)[p]? = some n.cells := by rw [List.getElem?_map, hn]; rfl
   have hw : IntKind.i64.wrap ((i : Int) + 1) = (i : Int) + 1 := wrap64_id (by omega) (by omega)
   have hxp : (l.map iPV)[i]? = some (iPV (p : Int)) := by rw [List.getElem?_map, hx]; rfl
   have htk : (l.map iPV).take i = (l.take i).map iPV := by rw [List.map_take]
   have hF := cnfI_told (g := 184) (fs := []) (cs := [.pp [.v (.int .i64 (p : Int))], .pp [.v (.int .i64 n.kind)], .pp s.cells]) rfl rfl (l.take i) (fun m => m == (p : Int) || (!namedK n.kind && kindAt s.nodes m.toNat == n.kind)) fun m hm => by
    obtain ⟨h2, h3⟩ := hl m (List.mem_of_mem_take hm)
    obtain ⟨j, rfl⟩ : ∃ j : Nat, m = (j : Int) := ⟨m.toNat, by omega⟩
    have := union1_told s j (p : Int) n.kind (by omega)
    rw [Int.toNat_natCast]
    exact this
   rw [drop_at hx, branchesM, branchM, Int.toNat_natCast, kindAt_of hn] at hv
   obtain ⟨b, hb⟩ : ∃ b : Bool, b = (l.take i).any fun m => m == (p : Int) || (!namedK n.kind && kindAt s.nodes m.toNat == n.kind) := ⟨_, rfl⟩
   rw [← hb] at hF hv
   refine walkGF (And.intro hxp (And.intro @iPV_eq (And.intro hnp @ncells_mk))) ?_
   (refine AO.step fun K hK => ?_; simp only [go_sem, Int.reduceBEq, Int.reduceLE, Int.reduceLT, Int.reduceNeg, Nat.reduceAdd, Nat.reduceEqDiff, Nat.reduceLT, Nat.reduceLeDiff, Nat.reduceMul, Nat.reduceSub, reduceCtorEq, ↓reduceIte, htk]; (first | refine gsel_go ?_ | skip))
   refine .inr (.inl ⟨.c (.v (.bool b)), [.c (.sl 1 ((l.take i).map iPV)), .fn (.func 184) [] [.pp [.v (.int .i64 (p : Int))], .pp [.v (.int .i64 n.kind)], .pp s.cells]], [832, 904], fun hg => ⟨hg, by rfl, rfl, fun k x z h5 h6 => ?_, rfl, hF⟩, hK _ _ _ ?_⟩)
   · match k with
     | 0 => obtain rfl := Option.some.inj h5; obtain rfl := Option.some.inj h6; exact .same _
     | 1 =>
       obtain rfl := Option.some.inj h5
       obtain rfl := Option.some.inj h6
       refine .fn rfl (by simp) rfl fun k x z h7 h8 => ?_
       match k with
       | 0 => obtain rfl := Option.some.inj h7; obtain rfl := Option.some.inj h8; exact View.ref (es := [.v (.int .i64 (p : Int))]) rfl rfl rfl rfl
       | 1 => obtain rfl := Option.some.inj h7; obtain rfl := Option.some.inj h8; exact View.ref (es := [.v (.int .i64 n.kind)]) rfl rfl rfl rfl
       | 2 => obtain rfl := Option.some.inj h7; obtain rfl := Option.some.inj h8; exact .same _
       | k + 3 => simp at h7
     | k + 2 => simp at h5
   clear hK K
   refine walkG ?_
   refine VC.cond (by rfl) (by trivial) (fun hc2 => ?_) (fun hc2 => ?_)
   · have hf : V = false := by
      rw [← hv]
      have : (n.kind != 13 && !b) = false := by
       cases b <;> simp at hc2 ⊢
       exact hc2
      rw [this]
      rfl
     subst hf
     refine walkG ?_
     refine retX Tryz.results135 ?_
     exact .c _
   · refine walkGF (hw) ?_
     refine .next ⟨i + 1, by omega, ?_⟩ ?_ (by simp only []; omega)
     · have : (n.kind != 13 && !b) = true := by
        cases b <;> simp at hc2 ⊢
        exact hc2
       rw [this, Bool.true_and] at hv
       rw [List.take_add_one, hx]
       exact hv
     simp only [Weak, eq_self, used_is, sc_any, sc_c, sc_pp, sc_ref, sc_row, sc_agg, sc_fn, ScL, some_imp, List.forall_mem_map, go_sem, Int.reduceBEq, Int.reduceLE, Int.reduceLT, Int.reduceNeg, Nat.reduceAdd, Nat.reduceEqDiff, Nat.reduceLT, Nat.reduceLeDiff, Nat.reduceMul, Nat.reduceSub, reduceCtorEq, ↓reduceIte]
     try exact cI (by omega)
 · have hie : i = l.length := by simp at hc; omega
   have hf : V = true := by
    rw [← hv, hie, List.drop_length, branchesM]
   subst hf
   refine walkG ?_
   refine retX Tryz.results135 ?_
   exact .c _

theorem node_told (s : ST) (n : NT) (hsm : n.sm 1000000) (hbr : n.kind = 13 → ∀ k ∈ n.branches, 0 ≤ k ∧ k < (s.nodes.length : Int)) : Told Tryz.prog 68 [s.av, n.av] (.c (.v (.bool (nodeM s.nodes n)))) := by
 obtain ⟨V, hV⟩ : ∃ V, V = nodeM s.nodes n := ⟨_, rfl⟩
 rw [← hV]
 unfold nodeM at hV
 obtain ⟨hn1, hn2, ⟨ha1, ha2⟩, ⟨hs1, hs2⟩, hb1, hf1, hf2⟩ := hsm
 have hB := bare_told n
 have hN := named_told n.kind
 have hF := full_told n.name (by omega)
 have hKd := kind_told n.name
 have hA := all_told (g := 72) (rule := fullM) n.aliases fun x hx => full_told x (by have := ha2 x hx; omega)
 have hFi := fields_told n.fields hf1 hf2
 have hC := contains_told n.symbols n.dflt
 have hD := different_told (g := 134) (rule := simpleM) n.symbols (by omega) fun x hx => simple_told x (by have := hs2 x hx; omega)
 have hU := fun h => union_told s n.branches (hbr h) hb1
 clear hbr ha1 ha2 hs2 hf2
 simp only [NT.av_eq, ncells_mk, List.map_cons, List.map_nil] at hB
 simp only [ST.av_eq, scells_mk, List.map_cons, List.map_nil] at hU
 obtain ⟨b0, h0⟩ : ∃ b, b = bareM n := ⟨_, rfl⟩
 obtain ⟨bN, hNN⟩ : ∃ b, b = namedK n.kind := ⟨_, rfl⟩
 obtain ⟨bF, hFF⟩ : ∃ b, b = fullM n.name := ⟨_, rfl⟩
 obtain ⟨kK, hKK⟩ : ∃ b, b = kindM n.name := ⟨_, rfl⟩
 obtain ⟨bA, hAA⟩ : ∃ b, b = allM fullM n.aliases := ⟨_, rfl⟩
 rw [← h0] at hV hB
 rw [← hNN] at hV hN
 rw [← hFF] at hV hF
 rw [← hKK] at hV hKd
 rw [← hAA] at hV hA
 clear h0 hFF hKK hAA
 rw [NT.av_eq, ncells_mk, ST.av_eq, scells_mk]
 have hE : (⟨#[]⟩ : ByteArray).toList = [] := str_toList []
 refine VC.toldP ent_68 Tryz.func68 rfl Tryz.ntmps68 fun hb => ?_
 clear hb
 refine walkG ?_
 refine walkD (hB) ?_
 refine walkG ?_
 refine VC.cond (by rfl) (by trivial) (fun hc => ?_) (fun hc => ?_)
 · have hf : V = false := by
    rw [hV]
    have : (decide (1 ≤ n.kind) && (decide (n.kind ≤ 14) && b0)) = false := by
     simp at hc ⊢
     intro h1 h2
     cases b0 with
     | false => rfl
     | true => simp at hc; omega
    rw [this]
    rfl
   subst hf
   refine walkG ?_
   refine retX Tryz.results68 ?_
   exact .c _
 have h1 : (decide (1 ≤ n.kind) && (decide (n.kind ≤ 14) && b0)) = true := by
  simp at hc ⊢
  exact ⟨by omega, by omega, hc.2⟩
 rw [h1, Bool.true_and] at hV
 clear h1 hc
 refine walkG ?_
 refine walkC (hN) ?_
 refine walkG ?_
 refine walkD (hF) ?_
 refine walkG ?_
 refine walkD (hKd) ?_
 refine walkG ?_
 refine walkD (hA) ?_
 refine walkG ?_
 refine VC.cond (by rfl) (by trivial) (fun hc => ?_) (fun hc => ?_)
 · have hf : V = false := by
    rw [hV]
    have : (!bN || (bF && (kK == 0 && bA))) = false := by
     cases bN <;> cases bF <;> cases bA <;> simp at hc ⊢
     simpa using hc
    rw [this]
    rfl
   subst hf
   refine walkG ?_
   refine retX Tryz.results68 ?_
   exact .c _
 have h1 : (!bN || (bF && (kK == 0 && bA))) = true := by
  cases bN <;> cases bF <;> cases bA <;> simp at hc ⊢
  simpa using hc
 rw [h1, Bool.true_and] at hV
 clear h1 hc hN hF hKd hA hB
 by_cases h9 : n.kind = 9
 · rw [if_pos h9] at hV
   subst hV
   rw [h9]
   refine walkB ?_
   refine walkC (hFi) ?_
   refine walkG ?_
   refine retX Tryz.results68 ?_
   exact .c _
 by_cases h10 : n.kind = 10
 · rw [if_neg h9, if_pos h10] at hV
   rw [h10]
   obtain ⟨bC, hCC⟩ : ∃ b, b = n.symbols.contains n.dflt := ⟨_, rfl⟩
   obtain ⟨bD, hDD⟩ : ∃ b, b = diffM simpleM n.symbols := ⟨_, rfl⟩
   rw [← hCC] at hV hC
   rw [← hDD] at hV hD
   clear hCC hDD
   refine walkB ?_
   refine walkC (hC) ?_
   refine walkGF (And.intro @str_toList hE) ?_
   refine VC.cond (by rfl) (by trivial) (fun hc => ?_) (fun hc => ?_)
   · have hf : V = false := by
      rw [hV]
      have : ((n.has == bC) && (n.has || n.dflt.isEmpty)) = false := by
       cases hh : n.has <;> cases bC <;> cases hd : n.dflt <;> simp [hh, hd] at hc ⊢
      rw [this]
      rfl
     subst hf
     refine walkG ?_
     refine retX Tryz.results68 ?_
     exact .c _
   · have h1 : ((n.has == bC) && (n.has || n.dflt.isEmpty)) = true := by
      cases hh : n.has <;> cases bC <;> cases hd : n.dflt <;> simp [hh, hd] at hc ⊢
     rw [h1, Bool.true_and] at hV
     have hv : V = ((decide ((n.symbols.length : Int) ≥ 1) && decide ((n.symbols.length : Int) ≤ 40)) && bD) := by
      rw [hV, Bool.and_assoc]
      congr 1
      · simp
        omega
      · congr 1
        simp
        omega
     clear hV hc h1
     replace hv := Lib.hid hv
     refine walkG ?_
     refine walkD (hD) ?_
     refine walkG ?_
     refine retX Tryz.results68 ?_
     rw [hv.out]
     exact .c _
 by_cases h14 : n.kind = 14
 · rw [if_neg h9, if_neg h10, if_pos h14] at hV
   rw [h14]
   refine walkB ?_
   refine retX Tryz.results68 ?_
   rw [hV]
   exact .c _
 by_cases h13 : n.kind = 13
 · rw [if_neg h9, if_neg h10, if_neg h14, if_pos h13] at hV
   subst hV
   rw [h13]
   have hU := hU h13
   refine walkB ?_
   refine walkC (hU) ?_
   refine walkG ?_
   refine retX Tryz.results68 ?_
   exact .c _
 · rw [if_neg h9, if_neg h10, if_neg h14, if_neg h13] at hV
   subst hV
   have e9 : (n.kind == 9) = false := by simpa using h9
   have e10 : (n.kind == 10) = false := by simpa using h10
   have e14 : (n.kind == 14) = false := by simpa using h14
   have e13 : (n.kind == 13) = false := by simpa using h13
   refine walkBF (And.intro e9 (And.intro e10 (And.intro e14 e13))) ?_
   refine retX Tryz.results68 ?_
   exact .c _

def wB (ns : List NT) (r : Int) (p : Nat) : Blkd := ⟨false, 178, 3, [[.c (.sl 10 (ns.map NT.cells)), .c (.v (.int .i64 r)), .c (.v (.int .i64 (p : Int)))]]⟩
theorem kids_len {n : NT} (h : n.sm 1000000) : (kidsN n).length ≤ 1000000 := by
 unfold kidsN
 have h1 := h.2.2.2.2.1
 have h2 := h.2.2.2.2.2.1
 split
 · simpa using h2
 · split
   · simp
   · split
     · exact h1
     · simp
theorem drop_at' {α : Type} {l : List α} {i : Nat} {x : α} (h : l[i]? = some x) : l.drop i = x :: l.drop (i + 1) := by
 obtain ⟨hlt, rfl⟩ := List.getElem?_eq_some_iff.1 h
 exact List.drop_eq_getElem_cons hlt
theorem walk_told (ns : List NT) (r : Int) (hl : ns.length ≤ 1000000) (hs : ∀ n ∈ ns, n.sm 1000000) : ∀ (d : Nat) (z : Int), z = 33 - (d : Int) → d ≤ 33 → ∀ p : Nat, p ≤ ns.length →
  ToldM Tryz.prog 128 [.ref 1000000 1 0 0, .c (.v (.int .i64 z))] [wB ns r p] [some (wB ns r (walkM ns d p).2)] (.c (.v (.bool (walkM ns d p).1))) := by
 intro d
 induction d with
 | zero =>
   intro z hz hd p hp
   have hz2 : decide (z > 32) = true := by simp; omega
   rw [walkM]
   unfold wB
   refine VC.toldX ent_128 [] Tryz.func128 rfl Tryz.ntmps128 fun hb hbL => ?_
   clear hb hbL
   refine walkGF (hz2) ?_
   refine VC.cond (by rfl) (by trivial) (fun hc => ?_) (fun hc => ?_)
   · refine walkG ?_
     refine retX Tryz.results128 ?_
     exact .c _
   · exact absurd hc (by simp)
 | succ d ih =>
   intro z hz hd p hp
   have hz2 : decide (z > 32) = false := by simp; omega
   have hwz : IntKind.i64.wrap (z + 1) = z + 1 := wrap64_id (by omega) (by omega)
   have hI := ih (z + 1) (by omega) (by omega)
   clear ih
   obtain ⟨R, hR⟩ : ∃ R, R = walkM ns (d + 1) p := ⟨_, rfl⟩
   rw [← hR]
   rw [walkM] at hR
   have hle := walkM_le ns d
   by_cases hlt : p < ns.length
   · obtain ⟨n, hn⟩ : ∃ n, ns[p]? = some n := ⟨ns[p], List.getElem?_eq_getElem hlt⟩
     have hnp : (ns.map NT.cells)[p]? = some n.cells := by rw [List.getElem?_map, hn]; rfl
     have hge : decide ((p : Int) ≥ (ns.length : Int)) = false := by simp; omega
     have hwp : IntKind.i64.wrap ((p : Int) + 1) = ((p + 1 : Nat) : Int) := by rw [wrap64_id (by omega) (by omega)]; rfl
     have hns := hs n (List.mem_of_getElem? hn)
     have hK := kids_told n hns
     have hkl := kids_len hns
     rw [hn] at hR
     simp only [] at hR
     obtain ⟨ks, hks⟩ : ∃ ks, ks = kidsN n := ⟨_, rfl⟩
     rw [← hks] at hK hR hkl
     simp only [NT.av_eq] at hK
     clear hks
     have hKi := hK
     clear hK
     unfold wB at hI ⊢
     refine VC.toldX ent_128 [] Tryz.func128 rfl Tryz.ntmps128 fun hb hbL => ?_
     clear hb hbL
     refine walkGF (And.intro hge hz2) ?_
     refine VC.cond (by rfl) (by trivial) (fun hc => ?_) (fun hc => ?_)
     · exact absurd hc (by simp)
     refine walkGF (And.intro hwp (And.intro hnp (And.intro @len_ncells (And.intro @take_ncells @take_ncellsC)))) ?_
     refine walkCF (@pureL_c) (hKi) ?_
     refine walkG ?_
     clear hKi
     refine VC.loop (ι := {x : Nat × Nat // x.1 ≤ ks.length ∧ x.2 ≤ ns.length ∧ walkK ns (walkM ns d) (ks.drop x.1) x.2 = R})
      (fun q => [(0, .ref 1000000 1 0 0), (1, .c (.v (.int .i64 z))), (6, .fn (.func 128) [.ref 1000000 1 0 0] []), (42, .c (.sl 1 (ks.map iPV))), (43, .c (.v (.int .i64 (ks.length : Int)))), (44, .c (.v (.int .i64 (q.1.1 : Int))))])
      (fun q => [(1000000, ⟨false, 178, 3, [[.c (.sl 10 (ns.map NT.cells)), .c (.v (.int .i64 r)), .c (.v (.int .i64 (q.1.2 : Int)))]]⟩)]) 800 (fun q => ks.length - q.1.1) ⟨(0, p + 1), Nat.zero_le _, hlt, by rw [List.drop_zero]; exact hR.symm⟩ ?_ ?_
     · simp only [Weak, eq_self, used_is, sc_any, sc_c, sc_pp, sc_ref, sc_row, sc_agg, sc_fn, ScL, some_imp, List.forall_mem_map, go_sem, Int.reduceBEq, Int.reduceLE, Int.reduceLT, Int.reduceNeg, Nat.reduceAdd, Nat.reduceEqDiff, Nat.reduceLT, Nat.reduceLeDiff, Nat.reduceMul, Nat.reduceSub, reduceCtorEq, ↓reduceIte]
       try simp
     clear hR
     rintro ⟨⟨i, q⟩, hi, hq, hR⟩
     simp only [] at hi hq hR ⊢
     refine walkG ?_
     refine VC.cond (by rfl) (by trivial) (fun hc2 => ?_) (fun hc2 => ?_)
     · have hil : i < ks.length := by simp at hc2; omega
       obtain ⟨x, hx⟩ : ∃ x, ks[i]? = some x := ⟨ks[i], List.getElem?_eq_getElem hil⟩
       have hxp : (ks.map iPV)[i]? = some (iPV x) := by rw [List.getElem?_map, hx]; rfl
       have hw : IntKind.i64.wrap ((i : Int) + 1) = (i : Int) + 1 := wrap64_id (by omega) (by omega)
       rw [drop_at' hx, walkK] at hR
       by_cases hk : x = (q : Int)
       · rw [if_pos hk] at hR
         have hkq : (x == (q : Int)) = true := by simpa using hk
         have hIq := hI q hq
         have hqb := (hle q hq).2
         obtain ⟨M, hM⟩ : ∃ M, M = walkM ns d q := ⟨_, rfl⟩
         rw [← hM] at hIq hR hqb
         clear hI hM
         refine walkBF (And.intro hxp (And.intro @iPV_eq (And.intro hkq hwz))) ?_
         refine walkL [1000000] (hIq) ?_
         refine walkG ?_
         refine VC.cond (by rfl) (by trivial) (fun hc3 => ?_) (fun hc3 => ?_)
         · have hf : R = (false, M.2) := by
            rw [if_neg (by simpa using hc3)] at hR
            exact hR.symm
           subst hf
           refine walkG ?_
           refine retX Tryz.results128 ?_
           exact .c _
         · rw [if_pos (by simpa using hc3)] at hR
           refine walkGF (hw) ?_
           refine .next ⟨(i + 1, M.2), by simp only []; omega, hqb, hR⟩ ?_ (by simp only []; omega)
           simp only [Weak, eq_self, used_is, sc_any, sc_c, sc_pp, sc_ref, sc_row, sc_agg, sc_fn, ScL, some_imp, List.forall_mem_map, go_sem, Int.reduceBEq, Int.reduceLE, Int.reduceLT, Int.reduceNeg, Nat.reduceAdd, Nat.reduceEqDiff, Nat.reduceLT, Nat.reduceLeDiff, Nat.reduceMul, Nat.reduceSub, reduceCtorEq, ↓reduceIte]
           try exact cI (by omega)
       · rw [if_neg hk] at hR
         have hkq : (x == (q : Int)) = false := by simpa using hk
         by_cases hx0 : x < 0
         · have hf : R = (false, q) := by
            rw [if_pos (.inl hx0)] at hR
            exact hR.symm
           subst hf
           have e0 : decide (x < 0) = true := by simpa using hx0
           refine walkBF (And.intro hxp (And.intro @iPV_eq (And.intro hkq e0))) ?_
           refine retX Tryz.results128 ?_
           exact .c _
         have e0 : decide (x < 0) = false := by simpa using hx0
         by_cases hxq : x > (q : Int)
         · have hf : R = (false, q) := by
            rw [if_pos (.inr (.inl hxq))] at hR
            exact hR.symm
           subst hf
           have e1 : decide (x > (q : Int)) = true := by simpa using hxq
           refine walkBF (And.intro hxp (And.intro @iPV_eq (And.intro hkq (And.intro e0 e1)))) ?_
           refine retX Tryz.results128 ?_
           exact .c _
         have e1 : decide (x > (q : Int)) = false := by simpa using hxq
         obtain ⟨j, rfl⟩ : ∃ j : Nat, x = (j : Int) := ⟨x.toNat, by omega⟩
         have hj : j < ns.length := by omega
         obtain ⟨m, hm⟩ : ∃ m, ns[j]? = some m := ⟨ns[j], List.getElem?_eq_getElem hj⟩
         have hmp : (ns.map NT.cells)[j]? = some m.cells := by rw [List.getElem?_map, hm]; rfl
         have hka : kindAt ns ((j : Int)).toNat = m.kind := by rw [Int.toNat_natCast, kindAt, hm]
         rw [hka] at hR
         have hN := named_told m.kind
         refine walkBF (And.intro hxp (And.intro @iPV_eq (And.intro hkq (And.intro e0 (And.intro e1 (And.intro hmp @ncells_mk)))))) ?_
         refine walkC (hN) ?_
         refine walkG ?_
         refine VC.cond (by rfl) (by trivial) (fun hc3 => ?_) (fun hc3 => ?_)
         · have hf : R = (false, q) := by
            rw [if_pos (.inr (.inr (by simpa using hc3)))] at hR
            exact hR.symm
           subst hf
           refine walkG ?_
           refine retX Tryz.results128 ?_
           exact .c _
         · have hnn : namedK m.kind = true := by simpa using hc3
           have hno : ¬ ((j : Int) < 0 ∨ (j : Int) > (q : Int) ∨ namedK m.kind = false) := by
            rintro (h | h | h)
            · exact hx0 h
            · exact hxq h
            · rw [hnn] at h
              exact absurd h (by simp)
           rw [if_neg hno] at hR
           refine walkGF (hw) ?_
           refine .next ⟨(i + 1, q), by simp only []; omega, hq, hR⟩ ?_ (by simp only []; omega)
           simp only [Weak, eq_self, used_is, sc_any, sc_c, sc_pp, sc_ref, sc_row, sc_agg, sc_fn, ScL, some_imp, List.forall_mem_map, go_sem, Int.reduceBEq, Int.reduceLE, Int.reduceLT, Int.reduceNeg, Nat.reduceAdd, Nat.reduceEqDiff, Nat.reduceLT, Nat.reduceLeDiff, Nat.reduceMul, Nat.reduceSub, reduceCtorEq, ↓reduceIte]
           try exact cI (by omega)
     · have hie : i = ks.length := by simp at hc2; omega
       have hf : R = (true, q) := by
        rw [hie, List.drop_length, walkK] at hR
        exact hR.symm
       subst hf
       refine walkG ?_
       refine retX Tryz.results128 ?_
       exact .c _
   · have hR : R = (false, p) := by
      rw [hR, List.getElem?_eq_none (by omega)]
     subst hR
     have hge : decide ((p : Int) ≥ (ns.length : Int)) = true := by simp; omega
     unfold wB
     refine VC.toldX ent_128 [] Tryz.func128 rfl Tryz.ntmps128 fun hb hbL => ?_
     clear hb hbL
     refine walkGF (hge) ?_
     refine VC.cond (by rfl) (by trivial) (fun hc => ?_) (fun hc => ?_)
     · refine walkG ?_
       refine retX Tryz.results128 ?_
       exact .c _
     · exact absurd hc (by simp)
theorem ordered_told (s : ST) (hl : s.nodes.length ≤ 1000000) (hs : ∀ n ∈ s.nodes, n.sm 1000000) : Told Tryz.prog 67 [s.av] (.c (.v (.bool (orderedM s)))) := by
 have hW := walk_told s.nodes s.root hl hs 33 0 (by omega) (by omega) 0 (Nat.zero_le _)
 unfold wB at hW
 obtain ⟨V, hV⟩ : ∃ V, V = orderedM s := ⟨_, rfl⟩
 rw [← hV]
 unfold orderedM at hV
 obtain ⟨M, hM⟩ : ∃ M, M = walkM s.nodes 33 0 := ⟨_, rfl⟩
 rw [← hM] at hV hW
 clear hM
 have hv : V = (decide ((s.nodes.length : Int) > 0) && decide ((s.nodes.length : Int) ≤ 200) && (s.root == 0) && M.1 && ((M.2 : Int) == (s.nodes.length : Int))) := by
  have e1 : decide ((s.nodes.length : Int) > 0) = decide (0 < s.nodes.length) := by simp
  have e2 : decide ((s.nodes.length : Int) ≤ 200) = decide (s.nodes.length ≤ 200) := by simp; omega
  have e3 : (s.root == 0) = decide (s.root = 0) := by by_cases h : s.root = 0 <;> simp [h]
  have e4 : ((M.2 : Int) == (s.nodes.length : Int)) = decide (M.2 = s.nodes.length) := by
   by_cases h : M.2 = s.nodes.length
   · simp [h]
   · have : ¬ ((M.2 : Int) = (s.nodes.length : Int)) := by omega
     simp [h, this]
  rw [hV, e1, e2, e3, e4]
  simp only [Bool.and_assoc]
 clear hV
 replace hv := Lib.hid hv
 rw [ST.av_eq, scells_mk]
 rw [show ((0 : Nat) : Int) = 0 from rfl] at hW
 by_cases c1 : 0 < s.nodes.length
 · have e1 : decide ((s.nodes.length : Int) > 0) = true := by simpa using c1
   by_cases c2 : s.nodes.length ≤ 200
   · have e2 : decide ((s.nodes.length : Int) ≤ 200) = true := by simp; omega
     by_cases c3 : s.root = 0
     · have e3 : (s.root == 0) = true := by simpa using c3
       have hv2 : V = (M.1 && ((M.2 : Int) == (s.nodes.length : Int))) := by rw [hv.out, e1, e2, e3]; simp
       clear hv
       replace hv2 := Lib.hid hv2
       refine VC.toldP ent_67 Tryz.func67 rfl Tryz.ntmps67 fun hb => ?_
       clear hb
       refine walkGF (And.intro e1 (And.intro e2 e3)) ?_
       refine walkL [32] (hW) ?_
       refine walkG ?_
       refine retX Tryz.results67 ?_
       rw [hv2.out]
       exact .c _
     · have e3 : (s.root == 0) = false := by simpa using c3
       have hv2 : V = false := by rw [hv.out, e3]; simp
       clear hv
       subst hv2
       refine VC.toldP ent_67 Tryz.func67 rfl Tryz.ntmps67 fun hb => ?_
       clear hb
       refine walkGF (And.intro e1 (And.intro e2 e3)) ?_
       refine retX Tryz.results67 ?_
       exact .c _
   · have e2 : decide ((s.nodes.length : Int) ≤ 200) = false := by simp; omega
     have hv2 : V = false := by rw [hv.out, e2]; simp
     clear hv
     subst hv2
     refine VC.toldP ent_67 Tryz.func67 rfl Tryz.ntmps67 fun hb => ?_
     clear hb
     refine walkGF (And.intro e1 e2) ?_
     refine retX Tryz.results67 ?_
     exact .c _
 · have e1 : decide ((s.nodes.length : Int) > 0) = false := by
    rw [show s.nodes.length = 0 by omega]
    rfl
   have hv2 : V = false := by rw [hv.out, e1]; simp
   clear hv
   subst hv2
   refine VC.toldP ent_67 Tryz.func67 rfl Tryz.ntmps67 fun hb => ?_
   clear hb
   refine walkGF (e1) ?_
   refine retX Tryz.results67 ?_
   exact .c _

def KnOk (kn : List Int) : Prop := ∀ x ∈ kn, -1 ≤ x ∧ x ≤ 1001
theorem KnOk.set {kn : List Int} (h : KnOk kn) (p : Nat) {v : Int} (hv : -1 ≤ v ∧ v ≤ 1001) : KnOk (kn.set p v) := fun x hx => by
 rcases List.mem_or_eq_of_mem_set hx with h1 | rfl
 · exact h x h1
 · exact hv
theorem count_set_le {kn : List Int} (p : Nat) {v : Int} (hv : v ≠ 0) : (kn.set p v).count 0 ≤ kn.count 0 := by
 by_cases hp : p < kn.length
 · rw [List.count_set hp]
   have : (v == 0) = false := by simpa using hv
   simp [this]
 · rw [List.set_eq_of_length_le (by omega)]
   exact Nat.le_refl _
theorem count_set_lt {kn : List Int} {p : Nat} {v : Int} (hp : kn[p]? = some 0) (hv : v ≠ 0) : (kn.set p v).count 0 < kn.count 0 := by
 obtain ⟨hlt, h0⟩ := List.getElem?_eq_some_iff.1 hp
 rw [List.count_set hlt]
 have : (v == 0) = false := by simpa using hv
 have hpos : 0 < kn.count 0 := List.count_pos_iff.2 (h0 ▸ List.getElem_mem hlt)
 simp [this, h0]
 omega
theorem weighK_ok (f : Nat → List Int → Int × List Int) (N : Nat) (hf : ∀ q kn, kn.length = N → KnOk kn → (f q kn).2.length = N ∧ KnOk (f q kn).2 ∧ (f q kn).2.count 0 ≤ kn.count 0 ∧ 1 ≤ (f q kn).1 ∧ (f q kn).1 ≤ 1001) :
  ∀ (xs : List FT) (n : Int) (kn : List Int), kn.length = N → KnOk kn → 1 ≤ n → n ≤ 1001 → (weighK f xs n kn).2.length = N ∧ KnOk (weighK f xs n kn).2 ∧ (weighK f xs n kn).2.count 0 ≤ kn.count 0 ∧ 1 ≤ (weighK f xs n kn).1 ∧ (weighK f xs n kn).1 ≤ 1001
 | [], n, kn, h1, h2, h3, h4 => ⟨h1, h2, Nat.le_refl _, h3, h4⟩
 | x :: xs, n, kn, h1, h2, h3, h4 => by
   rw [weighK]
   obtain ⟨a1, a2, a3, a4, a5⟩ := hf x.type.toNat kn h1 h2
   obtain ⟨b1, b2, b3, b4, b5⟩ := weighK_ok f N hf xs (min (n + (f x.type.toNat kn).1) 1001) (f x.type.toNat kn).2 a1 a2 (by omega) (by omega)
   exact ⟨b1, b2, by omega, b4, b5⟩
theorem knAt_of {kn : List Int} {p : Nat} {v : Int} (h : kn[p]? = some v) : knAt kn p = v := by rw [knAt, h]
theorem weighM_ok (ns : List NT) : ∀ (d q : Nat) (kn : List Int), kn.length = ns.length → KnOk kn → (weighM ns d q kn).2.length = ns.length ∧ KnOk (weighM ns d q kn).2 ∧ (weighM ns d q kn).2.count 0 ≤ kn.count 0 ∧ 1 ≤ (weighM ns d q kn).1 ∧ (weighM ns d q kn).1 ≤ 1001
 | 0, q, kn, h1, h2 => ⟨h1, h2, Nat.le_refl _, (by decide : (1 : Int) ≤ 1001), (by decide : (1001 : Int) ≤ 1001)⟩
 | d + 1, q, kn, h1, h2 => by
   rw [weighM]
   split
   · exact ⟨h1, h2, Nat.le_refl _, (by decide : (1 : Int) ≤ 1001), (by decide : (1001 : Int) ≤ 1001)⟩
   · split
     · rename_i h3 h4
       refine ⟨h1, h2, Nat.le_refl _, by omega, ?_⟩
       unfold knAt
       split
       · rename_i v hv
         exact (h2 v (List.mem_of_getElem? hv)).2
       · exact (by decide : (0 : Int) ≤ 1001)
     · obtain ⟨b1, b2, b3, b4, b5⟩ := weighK_ok (weighM ns d) ns.length (weighM_ok ns d) (fieldsAt ns q) 1 (kn.set q (-1)) (by rw [List.length_set]; exact h1) (h2.set q (by decide)) (by decide) (by decide)
       have c1 := count_set_le (kn := kn) q (v := -1) (by decide)
       have c2 := count_set_le (kn := (weighK (weighM ns d) (fieldsAt ns q) 1 (kn.set q (-1))).2) q (v := (weighK (weighM ns d) (fieldsAt ns q) 1 (kn.set q (-1))).1) (by omega)
       exact ⟨by rw [List.length_set]; exact b1, b2.set q (by omega), by simp only []; omega, b4, b5⟩
theorem weight_told (s : ST) (hl : s.nodes.length ≤ 1000000) (hs : ∀ n ∈ s.nodes, n.sm 1000000) (hr : ∀ n ∈ s.nodes, n.kind = 9 → ∀ f ∈ n.fields, 0 ≤ f.type ∧ f.type < (s.nodes.length : Int)) : ∀ (d p : Nat) (kn : List Int), p < s.nodes.length → kn.length = s.nodes.length → KnOk kn → kn.count 0 < d →
  ToldM Tryz.prog 69 [s.av, .c (.v (.int .i64 (p : Int))), .row 1000000 s.nodes.length] [⟨true, 3, 1, rA iPV kn⟩] [some ⟨true, 3, 1, rA iPV (weighM s.nodes d p kn).2⟩] (.c (.v (.int .i64 (weighM s.nodes d p kn).1))) := by
 intro d
 induction d with
 | zero => intro p kn _ _ _ h; omega
 | succ d ih =>
 intro p kn hp hk hko hc
 obtain ⟨R, hR⟩ : ∃ R, R = weighM s.nodes (d + 1) p kn := ⟨_, rfl⟩
 rw [← hR]
 rw [weighM] at hR
 obtain ⟨v, hv⟩ : ∃ v, kn[p]? = some v := ⟨kn[p]'(by omega), List.getElem?_eq_getElem (by omega)⟩
 rw [knAt_of hv] at hR
 have hvp : (rA iPV kn)[p]? = some [.c (.v (.int .i64 v))] := rA_at hv
 have hkl : (rA iPV kn).length = s.nodes.length := by rw [rA_len, hk]
 obtain ⟨N, hN⟩ : ∃ N, N = s.nodes.length := ⟨_, rfl⟩
 rw [ST.av_eq, scells_mk]
 by_cases hv0 : v < 0
 · rw [if_pos hv0] at hR
   subst hR
   have e0 : decide (v < 0) = true := by simpa using hv0
   refine VC.toldXF (And.intro @rA_len (And.intro @rA_sc hk)) ent_69 [] Tryz.func69 rfl Tryz.ntmps69 fun hb hbL => ?_
   clear hb hbL
   refine walkBF (And.intro hvp (And.intro hkl e0)) ?_
   refine retXF (@rA_ren) Tryz.results69 ?_
   exact .c _
 have e0 : decide (v < 0) = false := by simpa using hv0
 rw [if_neg hv0] at hR
 by_cases hv1 : 0 < v
 · rw [if_pos hv1] at hR
   subst hR
   have e1 : decide (v > 0) = true := by simpa using hv1
   refine VC.toldXF (And.intro @rA_len (And.intro @rA_sc hk)) ent_69 [] Tryz.func69 rfl Tryz.ntmps69 fun hb hbL => ?_
   clear hb hbL
   refine walkBF (And.intro hvp (And.intro hkl (And.intro e0 e1))) ?_
   refine retXF (@rA_ren) Tryz.results69 ?_
   exact .c _
 have e1 : decide (v > 0) = false := by simpa using hv1
 rw [if_neg hv1] at hR
 obtain rfl : v = 0 := by omega
 obtain ⟨n, hn⟩ : ∃ n, s.nodes[p]? = some n := ⟨s.nodes[p], List.getElem?_eq_getElem hp⟩
 have hnp : (s.nodes.map NT.cells)[p]? = some n.cells := by rw [List.getElem?_map, hn]; rfl
 have hns := hs n (List.mem_of_getElem? hn)
 have hfl := hns.2.2.2.2.2.1
 have hset : (rA iPV kn).set p [.c (.v (.int .i64 (-1)))] = rA iPV (kn.set p (-1)) := rA_set kn p (-1)
 have hfa : fieldsAt s.nodes p = if n.kind = 9 then n.fields else [] := by rw [fieldsAt, hn]
 obtain ⟨K0, hK0⟩ : ∃ K, K = weighK (weighM s.nodes d) (fieldsAt s.nodes p) 1 (kn.set p (-1)) := ⟨_, rfl⟩
 rw [← hK0] at hR
 subst hR
 have hct := count_set_lt (v := -1) hv (by decide)
 refine VC.toldXF (And.intro @rA_len (And.intro @rA_sc hk)) ent_69 [] Tryz.func69 rfl Tryz.ntmps69 fun hb hbL => ?_
 clear hb hbL
 refine walkBF (And.intro hvp (And.intro hkl (And.intro e0 (And.intro e1 (And.intro hset (And.intro hnp @ncells_mk)))))) ?_
 refine VC.loop (ι := {x : Nat × (Int × List Int) // x.1 ≤ n.fields.length ∧ x.2.2.length = s.nodes.length ∧ KnOk x.2.2 ∧ x.2.2.count 0 < kn.count 0 ∧ 1 ≤ x.2.1 ∧ x.2.1 ≤ 1001 ∧ (if n.kind = 9 then weighK (weighM s.nodes d) (n.fields.drop x.1) x.2.1 x.2.2 else (x.2.1, x.2.2)) = K0})
  (fun q => [(1, .c (.v (.int .i64 (p : Int)))), (2, .row 1000000 s.nodes.length), (3, .ref 0 1 0 0), (7, .c (.v (.int .i64 q.1.2.1))), (34, .c (.sl 9 (n.fields.map FT.cells))), (35, .c (.v (.int .i64 (n.fields.length : Int)))), (36, .c (.v (.int .i64 (q.1.1 : Int))))])
  (fun q => [(0, ⟨false, 24, 2, [[.c (.sl 10 (s.nodes.map NT.cells)), .c (.v (.int .i64 s.root))]]⟩), (1000000, ⟨true, 3, 1, rA iPV q.1.2.2⟩)]) 800 (fun q => n.fields.length - q.1.1)
  ⟨(0, (1, kn.set p (-1))), Nat.zero_le _, by simp only []; rw [List.length_set]; exact hk, hko.set p (by decide), hct, by simp only []; omega, by simp only []; omega, by
    rw [hK0, hfa]
    split
    · rw [List.drop_zero]
    · rfl⟩ ?_ ?_
 · simp only [rA_len, rA_sc, hk, List.length_set, Weak, eq_self, used_is, sc_any, sc_c, sc_pp, sc_ref, sc_row, sc_agg, sc_fn, ScL, some_imp, List.forall_mem_map, go_sem, Int.reduceBEq, Int.reduceLE, Int.reduceLT, Int.reduceNeg, Nat.reduceAdd, Nat.reduceEqDiff, Nat.reduceLT, Nat.reduceLeDiff, Nat.reduceMul, Nat.reduceSub, reduceCtorEq, ↓reduceIte]
   try simp
 clear hK0 hct hv hvp hset
 rintro ⟨⟨i, m, kn'⟩, hi, hk', hko', hc', hm1, hm2, hK⟩
 simp only [] at hi hk' hko' hc' hm1 hm2 hK ⊢
 have hkl' : (rA iPV kn').length = s.nodes.length := by rw [rA_len, hk']
 refine walkG ?_
 refine VC.cond (by rfl) (by trivial) (fun hc2 => ?_) (fun hc2 => ?_)
 · have hil : i < n.fields.length := by simp at hc2; omega
   obtain ⟨f, hx⟩ : ∃ f, n.fields[i]? = some f := ⟨n.fields[i], List.getElem?_eq_getElem hil⟩
   have hxp : (n.fields.map FT.cells)[i]? = some f.cells := by rw [List.getElem?_map, hx]; rfl
   have hw : IntKind.i64.wrap ((i : Int) + 1) = (i : Int) + 1 := wrap64_id (by omega) (by omega)
   by_cases h9 : n.kind = 9
   · have e9 : (n.kind == 9) = true := by simpa using h9
     obtain ⟨h0, h1⟩ := hr n (List.mem_of_getElem? hn) h9 f (List.mem_of_getElem? hx)
     obtain ⟨q, hq⟩ : ∃ q : Nat, f.type = (q : Int) := ⟨f.type.toNat, by omega⟩
     have hI := ih q kn' (by omega) hk' hko' (by omega)
     obtain ⟨w1, w2, w3, w4, w5⟩ := weighM_ok s.nodes d q kn' hk' hko'
     rw [if_pos h9, (List.drop_eq_getElem_cons hil).trans (by rw [(List.getElem?_eq_some_iff.1 hx).2]), weighK, hq, Int.toNat_natCast] at hK
     obtain ⟨M, hM⟩ : ∃ M, M = weighM s.nodes d q kn' := ⟨_, rfl⟩
     rw [← hM] at hI hK w1 w2 w3 w4 w5
     clear ih hM
     have hww : IntKind.i64.wrap (m + M.1) = m + M.1 := wrap64_id (by omega) (by omega)
     have hkl2 : (rA iPV M.2).length = s.nodes.length := by rw [rA_len, w1]
     simp only [ST.av_eq, scells_mk, List.map_cons, List.map_nil] at hI
     refine walkBF (And.intro hxp (And.intro @fcells_mk (And.intro @len_cells (And.intro @take_cells (And.intro @take_cellsC (And.intro hnp (And.intro @ncells_mk (And.intro e9 (And.intro hkl' hq))))))))) ?_
     refine walkLF (And.intro hkl' (And.intro hq @rA_ren)) [1000000] (hI) ?_
     refine walkGF (And.intro hww (And.intro hw hkl2)) ?_
     refine .next ⟨(i + 1, (min (m + M.1) 1001, M.2)), by simp only []; omega, w1, w2, by simp only []; omega, by simp only []; omega, by simp only []; omega, by simp only []; rw [if_pos h9]; exact hK⟩ ?_ (by simp only []; omega)
     refine weakXF (And.intro @rA_len (And.intro @rA_sc (And.intro @rA_ren w1))) ?_
     exact ⟨cI (by omega), Nat.le_refl _⟩
   · have e9 : (n.kind == 9) = false := by simpa using h9
     rw [if_neg h9] at hK
     refine walkBF (And.intro hxp (And.intro @fcells_mk (And.intro @len_cells (And.intro @take_cells (And.intro @take_cellsC (And.intro hnp (And.intro @ncells_mk (And.intro e9 hw)))))))) ?_
     refine .next ⟨(i + 1, (m, kn')), by simp only []; omega, hk', hko', hc', hm1, hm2, by simp only []; rw [if_neg h9]; exact hK⟩ ?_ (by simp only []; omega)
     refine weakXF (And.intro @rA_len (And.intro @rA_sc hk')) ?_
     exact ⟨cI (by omega), Nat.le_refl _⟩
 · have hie : i = n.fields.length := by simp at hc2; omega
   have hf : K0 = (m, kn') := by
    rw [← hK]
    split
    · rw [hie, List.drop_length, weighK]
    · rfl
   subst hf
   have hset : (rA iPV kn').set p [.c (.v (.int .i64 m))] = rA iPV (kn'.set p m) := rA_set kn' p m
   obtain ⟨u, hu⟩ : ∃ u, kn'[p]? = some u := ⟨kn'[p]'(by omega), List.getElem?_eq_getElem (by omega)⟩
   have hup : (rA iPV kn')[p]? = some [.c (.v (.int .i64 u))] := rA_at hu
   refine walkGF (And.intro hkl' (And.intro hup hset)) ?_
   refine retXF (@rA_ren) Tryz.results69 ?_
   exact .c _

theorem namesM_take {ns : List NT} {i : Nat} {n : NT} (h : ns[i]? = some n) : namesM (ns.take (i + 1)) = namesM (ns.take i) ++ (if namedK n.kind = true then [n.name] else []) := by
 rw [List.take_add_one, h]
 simp only [namesM, List.filter_append, List.map_append, Option.toList_some]
 congr 1
 by_cases hk : namedK n.kind = true
 · simp [hk]
 · simp [hk]
theorem rA_rep (N : Nat) : rA iPV (List.replicate N 0) = List.replicate N [AV.c (.v (.int .i64 0))] := by
 simp [rA, iPV]
theorem ordered_kids {s : ST} (h : orderedM s = true) : ∀ n ∈ s.nodes, ∀ k ∈ kidsN n, 0 ≤ k ∧ k < (s.nodes.length : Int) := by
 intro n hn k hk
 obtain ⟨i, hi⟩ := List.getElem?_of_mem hn
 have := (ordered_stand h).1 i n (Nat.zero_le _) (List.getElem?_eq_some_iff.1 hi).1 hi k hk
 exact ⟨this.1, this.2.1⟩
theorem names_sm {ns : List NT} {N : Nat} (h : ∀ n ∈ ns, n.sm N) : ∀ x ∈ namesM ns, x.length ≤ N := by
 intro x hx
 obtain ⟨n, hn, rfl⟩ := List.mem_map.1 hx
 exact (h n (List.mem_filter.1 hn).1).1
theorem names_len (ns : List NT) : (namesM ns).length ≤ ns.length := by
 unfold namesM
 rw [List.length_map]
 exact List.length_filter_le _ _
theorem sRight_told (s : ST) (hsm : s.sm 1000000) : Told Tryz.prog 34 [s.av] (.c (.v (.bool (rightM s)))) := by
 obtain ⟨V, hV⟩ : ∃ V, V = rightM s := ⟨_, rfl⟩
 rw [← hV]
 unfold rightM at hV
 obtain ⟨hl, hs⟩ := hsm
 have hO := ordered_told s hl hs
 simp only [ST.av_eq, scells_mk, List.map_cons, List.map_nil] at hO
 rw [ST.av_eq, scells_mk]
 cases ho : orderedM s with
 | false =>
   rw [ho] at hO hV
   obtain rfl : V = false := hV
   refine VC.toldP ent_34 Tryz.func34 rfl Tryz.ntmps34 fun hb => ?_
   clear hb
   refine walkG ?_
   refine walkC (hO) ?_
   refine walkB ?_
   refine retX Tryz.results34 ?_
   exact .c _
 | true =>
 rw [ho] at hO hV
 have hki := ordered_kids ho
 rw [Bool.true_and] at hV
 obtain ⟨R, hR⟩ : ∃ R, R = rightL s.nodes s.nodes 0 (List.replicate s.nodes.length 0) := ⟨_, rfl⟩
 rw [← hR] at hV
 have hnm : ∀ i, (namesM (s.nodes.take i)).length ≤ 1000000 := fun i => by
  have := names_len (s.nodes.take i)
  rw [List.length_take] at this
  omega
 refine VC.toldP ent_34 Tryz.func34 rfl Tryz.ntmps34 fun hb => ?_
 clear hb
 refine walkG ?_
 refine walkC (hO) ?_
 refine walkB ?_
 refine VC.nil 3 9 1 (by rfl) (by trivial) (by rfl) ?_
 refine VC.loop (ι := {x : Nat × List Int // x.1 ≤ s.nodes.length ∧ x.2.length = s.nodes.length ∧ KnOk x.2 ∧ rightL s.nodes (s.nodes.drop x.1) x.1 x.2 = R})
  (fun q => [(1, .ref 0 1 0 0), (3, .row 120 (namesM (s.nodes.take q.1.1)).length), (4, .row 72 s.nodes.length), (15, .c (.sl 10 (s.nodes.map NT.cells))), (16, .c (.v (.int .i64 (s.nodes.length : Int)))), (17, .c (.v (.int .i64 (q.1.1 : Int))))])
  (fun q => [(0, ⟨false, 24, 2, [[.c (.sl 10 (s.nodes.map NT.cells)), .c (.v (.int .i64 s.root))]]⟩), (72, ⟨true, 3, 1, rA iPV q.1.2⟩), (120, ⟨true, 9, 1, rA sPV (namesM (s.nodes.take q.1.1))⟩)]) 800 (fun q => s.nodes.length - q.1.1)
  ⟨(0, List.replicate s.nodes.length 0), Nat.zero_le _, by simp, fun x hx => by obtain rfl := (List.mem_replicate.1 hx).2; decide, by rw [List.drop_zero]; exact hR.symm⟩ ?_ ?_
 · simp only [rA_len, rA_sc, rA_rep, List.length_replicate, Weak, eq_self, used_is, sc_any, sc_c, sc_pp, sc_ref, sc_row, sc_agg, sc_fn, ScL, some_imp, List.forall_mem_map, go_sem, Int.reduceBEq, Int.reduceLE, Int.reduceLT, Int.reduceNeg, Nat.reduceAdd, Nat.reduceEqDiff, Nat.reduceLT, Nat.reduceLeDiff, Nat.reduceMul, Nat.reduceSub, reduceCtorEq, ↓reduceIte]
   refine ⟨rfl, rfl, ⟨Nat.le_refl _, Nat.le_refl _⟩, fun e he x hx => ?_⟩
   obtain rfl := (List.mem_replicate.1 he).2
   obtain rfl := List.mem_singleton.1 hx
   exact .c
 clear hR hO
 rintro ⟨⟨i, kn⟩, hi, hk, hko, hR⟩
 simp only [] at hi hk hko hR ⊢
 have hkl : (rA iPV kn).length = s.nodes.length := by rw [rA_len, hk]
 refine walkG ?_
 refine VC.cond (by rfl) (by trivial) (fun hc => ?_) (fun hc => ?_)
 · have hlt : i < s.nodes.length := by simp at hc; omega
   obtain ⟨n, hn⟩ : ∃ n, s.nodes[i]? = some n := ⟨s.nodes[i], List.getElem?_eq_getElem hlt⟩
   have hnp : (s.nodes.map NT.cells)[i]? = some n.cells := by rw [List.getElem?_map, hn]; rfl
   have hw : IntKind.i64.wrap ((i : Int) + 1) = (i : Int) + 1 := wrap64_id (by omega) (by omega)
   have hmem := List.mem_of_getElem? hn
   have hNd := node_told s n (hs n hmem) fun h13 k hk => hki n hmem k (by rw [kidsN, if_neg (by omega), if_neg (by omega), if_pos h13]; exact hk)
   have hNm := named_told n.kind
   have hW := weight_told s hl hs (fun m hm h9 f hf => hki m hm f.type (by rw [kidsN, if_pos h9]; exact List.mem_map.2 ⟨f, hf, rfl⟩)) (s.nodes.length + 1) i kn hlt hk hko (by have := List.count_le_length (a := (0 : Int)) (l := kn); omega)
   obtain ⟨w1, w2, w3, w4, w5⟩ := weighM_ok s.nodes (s.nodes.length + 1) i kn hk hko
   rw [(List.drop_eq_getElem_cons hlt).trans (by rw [(List.getElem?_eq_some_iff.1 hn).2]), rightL] at hR
   obtain ⟨M, hM⟩ : ∃ M, M = weighM s.nodes (s.nodes.length + 1) i kn := ⟨_, rfl⟩
   rw [← hM] at hW hR w1 w2 w3 w4 w5
   clear hM
   simp only [ST.av_eq, scells_mk, NT.av_eq, ncells_mk, List.map_cons, List.map_nil] at hNd hW
   have hkl2 : (rA iPV M.2).length = s.nodes.length := by rw [rA_len, w1]
   have hnl : (rA sPV (namesM (s.nodes.take i))).length = (namesM (s.nodes.take i)).length := rA_len _ _
   have hnt := namesM_take hn
   have hni := hnm i
   cases hnn : nodeM s.nodes n with
   | false =>
     rw [hnn] at hNd hR
     obtain rfl : R = false := hR.symm
     obtain rfl : V = false := hV
     refine walkGF (And.intro hnp (And.intro @ncells_mk hkl)) ?_
     refine walkC (hNd) ?_
     refine walkB ?_
     refine retX Tryz.results34 ?_
     exact .c _
   | true =>
     rw [hnn] at hNd hR
     rw [Bool.true_and] at hR
     refine walkGF (And.intro hnp (And.intro @ncells_mk hkl)) ?_
     refine walkC (hNd) ?_
     refine walkG ?_
     refine walkLF (And.intro hkl @rA_ren) [72] (hW) ?_
     refine walkG ?_
     refine VC.cond (by rfl) (by trivial) (fun hc2 => ?_) (fun hc2 => ?_)
     · have hf : V = false := by
        have : ¬ M.1 ≤ 1000 := by simp at hc2; omega
        rw [hV, ← hR]
        simp [this]
       subst hf
       refine walkG ?_
       refine retX Tryz.results34 ?_
       exact .c _
     have hm1 : M.1 ≤ 1000 := by simp at hc2; omega
     have hR2 : rightL s.nodes (s.nodes.drop (i + 1)) (i + 1) M.2 = R := by
      rw [← hR]
      simp [hm1]
     refine walkGF (hkl2) ?_
     refine walkC (hNm) ?_
     refine walkG ?_
     refine VC.cond (by rfl) (by trivial) (fun hc3 => ?_) (fun hc3 => ?_)
     · rw [if_pos hc3] at hnt
       have hr : rA sPV (namesM (s.nodes.take i)) ++ [[.c (.v (.string (str n.name)))]] = rA sPV (namesM (s.nodes.take (i + 1))) := by
        rw [hnt]
        exact rA_one sPV _ n.name
       have hl2 : (namesM (s.nodes.take (i + 1))).length = (namesM (s.nodes.take i)).length + 1 := by rw [hnt]; simp
       refine walkGF (And.intro hnl (And.intro hr hw)) ?_
       refine .next ⟨(i + 1, M.2), by simp only []; omega, w1, w2, hR2⟩ ?_ (by simp only []; omega)
       refine weakXF (And.intro @rA_len (And.intro @rA_sc (And.intro @rA_ren (And.intro w1 hl2)))) ?_
       exact ⟨cI (by omega), Nat.le_refl _, Nat.le_refl _⟩
     · rw [if_neg (by rw [hc3]; simp), List.append_nil] at hnt
       refine walkGF (hw) ?_
       refine .next ⟨(i + 1, M.2), by simp only []; omega, w1, w2, hR2⟩ ?_ (by simp only []; omega)
       refine weakXF (And.intro @rA_len (And.intro @rA_sc (And.intro @rA_ren (And.intro w1 hnt)))) ?_
       exact ⟨cI (by omega), Nat.le_refl _, Nat.le_refl _⟩
 · have hie : i = s.nodes.length := by simp at hc; omega
   have hf : R = true := by
    rw [← hR, hie, List.drop_length, rightL]
   subst hf
   rw [Bool.true_and] at hV
   have htk : s.nodes.take i = s.nodes := by rw [hie, List.take_length]
   rw [htk]
   have hnm0 := hnm i
   rw [htk] at hnm0
   have hD := different_told (g := 72) (rule := fullM) (namesM s.nodes) (by omega) fun x hx => full_told x (by have := names_sm hs x hx; omega)
   rw [← hV] at hD
   have hrl : (rA sPV (namesM s.nodes)).length = (namesM s.nodes).length := rA_len _ _
   refine walkGF (hrl) ?_
   (refine AO.step fun K hK => ?_; simp only [go_sem, Int.reduceBEq, Int.reduceLE, Int.reduceLT, Int.reduceNeg, Nat.reduceAdd, Nat.reduceEqDiff, Nat.reduceLT, Nat.reduceLeDiff, Nat.reduceMul, Nat.reduceSub, reduceCtorEq, ↓reduceIte, hrl]; (first | refine gsel_go ?_ | skip))
   refine .inr (.inl ⟨.c (.v (.bool V)), [.c (.sl 1 ((namesM s.nodes).map sPV)), .fn (.func 72) [] []], [120], ⟨by simp [AV.pureL, AV.pureB], rfl, fun k x z h5 h6 => ?_, rfl, hD⟩, hK _ _ _ ?_⟩)
   · match k with
     | 0 =>
       obtain rfl := Option.some.inj h5
       obtain rfl := Option.some.inj h6
       exact View.row (B := ⟨true, 9, 1, rA sPV (namesM s.nodes)⟩) (es := (namesM s.nodes).map sPV) rfl rfl hrl (rA_pv _ _)
     | 1 => obtain rfl := Option.some.inj h5; obtain rfl := Option.some.inj h6; exact .same _
     | k + 2 => simp at h5
   clear hK K
   refine walkG ?_
   refine retX Tryz.results34 ?_
   exact .c _

theorem right_nodes {s : ST} (h : rightM s = true) : ∀ n ∈ s.nodes, nodeM s.nodes n = true := by
 have key : ∀ (r : List NT) (p : Nat) (kn : List Int), rightL s.nodes r p kn = true → ∀ n ∈ r, nodeM s.nodes n = true := by
  intro r
  induction r with
  | nil => simp
  | cons x xs ih =>
    intro p kn hr n hn
    rw [rightL] at hr
    simp only [Bool.and_eq_true] at hr
    rcases List.mem_cons.1 hn with rfl | hn
    · exact hr.1
    · exact ih _ _ hr.2.2 n hn
 unfold rightM at h
 simp only [Bool.and_eq_true] at h
 exact key _ _ _ h.2.1

mutual
def VT.lng : VT → Prop
 | .mk k n b s xs ks => (-9223372036854775808 ≤ n ∧ n ≤ 9223372036854775807) ∧ VT.lngL xs
def VT.lngL : List VT → Prop
 | [] => True
 | x :: xs => x.lng ∧ VT.lngL xs
end
theorem isM_parts {ns : List NT} {a : Int} {nd : NT} (hn : ns[a.toNat]? = some nd) {k n b : Int} {t : List UInt8} {xs : List VT} {ks : List (List UInt8)} (hv : isM ns a (.mk k n b t xs ks) = true) :
  k = nd.kind ∧ vbare k n b t xs.length ks = true ∧ t.length ≤ 20000 ∧ (nd.kind = 9 → xs.length = nd.fields.length) ∧ (nd.kind = 12 → ks.length = xs.length) ∧ (nd.kind = 13 → 0 ≤ n ∧ n < (nd.branches.length : Int) ∧ xs.length = 1) ∧ (nd.kind = 14 → (t.length : Int) = nd.size) ∧ (nd.kind = 2 → n = 0 ∨ n = 1) ∧ (nd.kind = 5 → b < 4294967296) := by
 rw [isM_eq hn, Bool.and_eq_true] at hv
 obtain ⟨hh, _⟩ := hv
 unfold headM at hh
 simp only [Bool.and_eq_true, beq_iff_eq, decide_eq_true_eq] at hh
 obtain ⟨⟨hk, hvb, ht⟩, hr⟩ := hh
 refine ⟨hk, hvb, ht, fun h => ?_, fun h => ?_, fun h => ?_, fun h => ?_, fun h => ?_, fun h => ?_⟩
 · rw [hk, h] at hr
   simp at hr
   exact hr.1
 · rw [hk, h] at hr
   simp at hr
   exact hr.1.1
 · rw [hk, h] at hr
   simp at hr
   exact hr
 · rw [hk, h] at hr
   simp at hr
   exact hr
 · rw [hk, h] at hr
   simp at hr
   exact hr
 · rw [hk, h] at hr
   simp at hr
   exact hr

/-! Without cuts, how many were taken does not matter. -/
def Still (f : Enc) : Prop := ∀ c, f c = ((f 0).1, c)
def catF (fs : List Enc) : List UInt8 := (fs.map fun f => (f 0).1).flatten
theorem catF_cons (f : Enc) (fs : List Enc) : catF (f :: fs) = (f 0).1 ++ catF fs := rfl
theorem seqF_still : ∀ {fs : List Enc}, (∀ f ∈ fs, Still f) → ∀ c, seqF fs c = (catF fs, c)
 | [], _, c => by rw [seqF]; rfl
 | f :: fs, h, c => by
   rw [seqF, h f (by simp) c, catF_cons]
   simp only []
   rw [seqF_still (fun g hg => h g (by simp [hg])) c]
def blkP (m : Nat) (l : List UInt8) : List UInt8 := if m = 0 then vput 0 else vput (m : Int) ++ (l ++ vput 0)
theorem blkF_still : ∀ (k : Nat) {fs : List Enc}, (∀ f ∈ fs, Still f) → fs.length ≤ k → ∀ c, blkF [] k fs c = (blkP fs.length (catF fs), c)
 | 0, [], _, _, c => by rw [blkF]; rfl
 | 0, f :: fs, _, h, c => by simp at h
 | k + 1, [], _, _, c => by rw [blkF]; rfl
 | k + 1, f :: fs, h, hl, c => by
   have e1 : cutM [] c (fs.length + 1) = (fs.length + 1, false, c) := rfl
   have e2 : (f :: fs).take (fs.length + 1) = f :: fs := List.take_of_length_le (by simp)
   have e3 : (f :: fs).drop (fs.length + 1) = [] := List.drop_of_length_le (by simp)
   have e4 : ∀ c, blkF [] k [] c = (vput 0, c) := fun c => by cases k <;> rw [blkF]
   rw [blkF, e1]
   simp only []
   rw [e2, e3, seqF_still h c, e4]
   simp only [blkP, headB, List.length_cons]
   rfl
theorem keyF_still {y : List UInt8} {f : Enc} (h : Still f) : Still (keyF y f) := fun c => by
 rw [keyF, keyF]
 simp only []
 rw [h c]
theorem zipF_still {ks : List (List UInt8)} {fs : List Enc} (h : ∀ f ∈ fs, Still f) : ∀ f ∈ List.zipWith keyF ks fs, Still f := fun f hf => by
 obtain ⟨i, hi⟩ := List.getElem?_of_mem hf
 rw [List.getElem?_zipWith] at hi
 split at hi
 · obtain rfl := Option.some.inj hi
   rename_i y g hy hg
   exact keyF_still (h g (List.mem_of_getElem? hg))
 · simp at hi
mutual
theorem encM_still (ns : List NT) : ∀ (v : VT) (a : Int), Still (encM ns [] a v)
 | .mk k n b t xs ks, a, c => by
   have h := encsM_still ns xs
   rw [encM]
   simp only []
   split
   · rfl
   · split
     · rw [seqF_still (h _), seqF_still (h _)]
     · split
       · rw [blkF_still _ (h _) (by rw [encs_len]; exact Nat.le_refl _), blkF_still _ (h _) (by rw [encs_len]; exact Nat.le_refl _)]
       · split
         · rename_i nd _ _ _ _
           have h2 : (List.zipWith keyF ks (encsM ns [] (fun _ => nd.items) xs)).length ≤ xs.length := by
            rw [List.length_zipWith, encs_len]
            exact Nat.min_le_right _ _
           rw [blkF_still _ (zipF_still (h _)) h2, blkF_still _ (zipF_still (h _)) h2]
         · split
           · simp only []
             rw [seqF_still (h _), seqF_still (h _)]
           · rfl
theorem encsM_still (ns : List NT) : ∀ (xs : List VT) (f : Nat → Int), ∀ e ∈ encsM ns [] f xs, Still e
 | [], f => by rw [encsM]; simp
 | x :: xs, f => by
   rw [encsM]
   intro e he
   rcases List.mem_cons.1 he with rfl | he
   · exact encM_still ns x _
   · exact encsM_still ns xs _ e he
end
def encP (ns : List NT) (a : Int) (v : VT) : List UInt8 := (encM ns [] a v 0).1
def catP (ns : List NT) (f : Nat → Int) (xs : List VT) : List UInt8 := catF (encsM ns [] f xs)
def catK (ns : List NT) (f : Nat → Int) (ks : List (List UInt8)) (xs : List VT) : List UInt8 := catF (List.zipWith keyF ks (encsM ns [] f xs))
theorem catP_nil (ns : List NT) (f : Nat → Int) : catP ns f [] = [] := by rw [catP, encsM]; rfl
theorem catP_cons (ns : List NT) (f : Nat → Int) (x : VT) (xs : List VT) : catP ns f (x :: xs) = encP ns (f 0) x ++ catP ns (fun i => f (i + 1)) xs := by
 rw [catP, encsM]
 rfl
theorem catK_cons (ns : List NT) (f : Nat → Int) (y : List UInt8) (ks : List (List UInt8)) (x : VT) (xs : List VT) : catK ns f (y :: ks) (x :: xs) = vput (y.length : Int) ++ (y ++ (encP ns (f 0) x ++ catK ns (fun i => f (i + 1)) ks xs)) := by
 rw [catK, encsM, List.zipWith_cons_cons, catF_cons, keyF]
 simp only [List.append_assoc]
 rfl
theorem encP_eq {ns : List NT} {a : Int} {nd : NT} (h : ns[a.toNat]? = some nd) (k n b : Int) (t : List UInt8) (xs : List VT) (ks : List (List UInt8)) : encP ns a (.mk k n b t xs ks) =
  if nd.kind = 9 then catP ns (fun j => typeAt nd j) xs else if nd.kind = 11 then blkP xs.length (catP ns (fun _ => nd.items) xs) else if nd.kind = 12 then blkP (min ks.length xs.length) (catK ns (fun _ => nd.items) ks xs)
  else if nd.kind = 13 then vput n ++ catP ns (fun _ => branchAt nd n) xs else leafM nd nd.kind n b t := by
 have hs := encsM_still ns xs
 rw [encP, encM, h]
 simp only []
 split
 · rw [seqF_still (hs _)]
   rfl
 · split
   · rw [blkF_still _ (hs _) (by rw [encs_len]; exact Nat.le_refl _), encs_len]
     rfl
   · split
     · rw [blkF_still _ (zipF_still (hs _)) (by rw [List.length_zipWith, encs_len]; exact Nat.min_le_right _ _), List.length_zipWith, encs_len]
       rfl
     · split
       · rw [seqF_still (hs _)]
         rfl
       · rfl
/-! Bytes tell values apart. -/
theorem vint_inj : ∀ (u w : Nat) (R S : List UInt8), vint u ++ R = vint w ++ S → u = w ∧ R = S := by
 intro u
 induction u using Nat.strongRecOn with
 | _ u ih =>
 intro w R S h
 by_cases hu : u < 128
 · rw [vint_lt hu] at h
   by_cases hw : w < 128
   · rw [vint_lt hw] at h
     simp only [List.cons_append, List.nil_append, List.cons.injEq] at h
     obtain ⟨h1, h2⟩ := h
     have h3 := congrArg UInt8.toNat h1
     simp at h3
     exact ⟨by omega, h2⟩
   · rw [vint_ge hw] at h
     simp only [List.cons_append, List.nil_append, List.cons.injEq] at h
     have h3 := congrArg UInt8.toNat h.1
     simp at h3
     omega
 · rw [vint_ge hu] at h
   by_cases hw : w < 128
   · rw [vint_lt hw] at h
     simp only [List.cons_append, List.nil_append, List.cons.injEq] at h
     have h3 := congrArg UInt8.toNat h.1
     simp at h3
     omega
   · rw [vint_ge hw] at h
     simp only [List.cons_append, List.cons.injEq] at h
     have h3 := congrArg UInt8.toNat h.1
     simp at h3
     obtain ⟨h4, h5⟩ := ih (u / 128) (by omega) (w / 128) R S h.2
     exact ⟨by omega, h5⟩
theorem vput_inj {m n : Int} {R S : List UInt8} (h : vput m ++ R = vput n ++ S) : m = n ∧ R = S := by
 obtain ⟨h1, h2⟩ := vint_inj _ _ R S h
 refine ⟨?_, h2⟩
 unfold zigN at h1
 split at h1 <;> split at h1 <;> omega
theorem bits_mod (b c : Int) : ∀ k, bitsB b k = bitsB c k → b.toNat % 256 ^ k = c.toNat % 256 ^ k
 | 0, _ => by simp [Nat.mod_one]
 | k + 1, h => by
   rw [bitsB, bitsB] at h
   obtain ⟨h1, h2⟩ := List.append_inj h (by rw [bitsB_len, bitsB_len])
   have h3 := bits_mod b c k h1
   have h4 := congrArg UInt8.toNat (List.cons.inj h2).1
   simp at h4
   rw [Nat.pow_succ, Nat.mod_mul, Nat.mod_mul, h3, h4]
theorem bits_inj {b c : Int} {k : Nat} {R S : List UInt8} (h : bitsB b k ++ R = bitsB c k ++ S) (hb : 0 ≤ b) (hc : 0 ≤ c) (hb' : b.toNat < 256 ^ k) (hc' : c.toNat < 256 ^ k) : b = c ∧ R = S := by
 obtain ⟨h1, h2⟩ := List.append_inj h (by rw [bitsB_len, bitsB_len])
 have h3 := bits_mod b c k h1
 rw [Nat.mod_eq_of_lt hb', Nat.mod_eq_of_lt hc'] at h3
 exact ⟨by omega, h2⟩
theorem blk_inj {m n : Nat} {l r R S : List UInt8} (h : blkP m l ++ R = blkP n r ++ S) : m = n ∧ ((m = 0 ∧ R = S) ∨ (m ≠ 0 ∧ l ++ (vput 0 ++ R) = r ++ (vput 0 ++ S))) := by
 unfold blkP at h
 by_cases hm : m = 0
 · rw [if_pos hm] at h
   by_cases hn : n = 0
   · rw [if_pos hn] at h
     exact ⟨by omega, .inl ⟨hm, List.append_cancel_left h⟩⟩
   · rw [if_neg hn, List.append_assoc] at h
     have := (vput_inj h).1
     omega
 · rw [if_neg hm, List.append_assoc] at h
   by_cases hn : n = 0
   · rw [if_pos hn] at h
     have := (vput_inj h).1
     omega
   · rw [if_neg hn, List.append_assoc, List.append_assoc, List.append_assoc] at h
     obtain ⟨h1, h2⟩ := vput_inj h
     exact ⟨by omega, .inr ⟨hm, h2⟩⟩
theorem vbare_parts {k n b : Int} {t : List UInt8} {m : Nat} {ks : List (List UInt8)} (h : vbare k n b t m ks = true) :
  (¬ (k = 2 ∨ k = 3 ∨ k = 4 ∨ k = 10 ∨ k = 13) → n = 0) ∧ (¬ (k = 5 ∨ k = 6) → b = 0) ∧ (¬ (k = 7 ∨ k = 8 ∨ k = 14) → t = []) ∧ (¬ (k = 9 ∨ k = 11 ∨ k = 12 ∨ k = 13) → m = 0) ∧ (k ≠ 12 → ks = []) := by
 unfold vbare at h
 simp only [Bool.and_eq_true, Bool.or_eq_true, beq_iff_eq, List.isEmpty_iff] at h
 obtain ⟨h1, h2, h3, h4, h5⟩ := h
 refine ⟨fun g => ?_, fun g => ?_, fun g => ?_, fun g => ?_, fun g => ?_⟩
 · rcases h1 with h1 | h1
   · omega
   · exact h1
 · rcases h2 with h2 | h2
   · omega
   · exact h2
 · rcases h3 with h3 | h3
   · omega
   · exact h3
 · rcases h4 with h4 | h4
   · omega
   · exact h4
 · rcases h5 with h5 | h5
   · omega
   · exact h5
theorem leaf_inj {nd : NT} {n b n' b' : Int} {t t' R S : List UInt8} (h : leafM nd nd.kind n b t ++ R = leafM nd nd.kind n' b' t' ++ S)
  (b0 : 0 ≤ b) (b1 : b < 18446744073709551616) (c0 : 0 ≤ b') (c1 : b' < 18446744073709551616)
  (p14 : nd.kind = 14 → (t.length : Int) = nd.size) (q14 : nd.kind = 14 → (t'.length : Int) = nd.size) (p2 : nd.kind = 2 → n = 0 ∨ n = 1) (q2 : nd.kind = 2 → n' = 0 ∨ n' = 1)
  (p5 : nd.kind = 5 → b < 4294967296) (q5 : nd.kind = 5 → b' < 4294967296) (h13 : nd.kind ≠ 13)
  (z1 : ¬ (nd.kind = 2 ∨ nd.kind = 3 ∨ nd.kind = 4 ∨ nd.kind = 10 ∨ nd.kind = 13) → n = 0) (z2 : ¬ (nd.kind = 5 ∨ nd.kind = 6) → b = 0) (z3 : ¬ (nd.kind = 7 ∨ nd.kind = 8 ∨ nd.kind = 14) → t = [])
  (y1 : ¬ (nd.kind = 2 ∨ nd.kind = 3 ∨ nd.kind = 4 ∨ nd.kind = 10 ∨ nd.kind = 13) → n' = 0) (y2 : ¬ (nd.kind = 5 ∨ nd.kind = 6) → b' = 0) (y3 : ¬ (nd.kind = 7 ∨ nd.kind = 8 ∨ nd.kind = 14) → t' = []) :
  n = n' ∧ b = b' ∧ t = t' ∧ R = S := by
 generalize nd.kind = k at *
 unfold leafM at h
 by_cases h2 : k = 2
 · rw [if_pos h2, if_pos h2] at h
   simp only [List.cons_append, List.nil_append, List.cons.injEq] at h
   obtain ⟨g1, g2⟩ := h
   refine ⟨?_, by rw [z2 (by omega), y2 (by omega)], by rw [z3 (by omega), y3 (by omega)], g2⟩
   rcases p2 h2 with rfl | rfl <;> rcases q2 h2 with rfl | rfl <;> first | rfl | (revert g1; decide)
 rw [if_neg h2, if_neg h2] at h
 by_cases h3 : k = 3 ∨ k = 4 ∨ k = 10
 · rw [if_pos h3, if_pos h3] at h
   obtain ⟨g1, g2⟩ := vput_inj h
   exact ⟨g1, by rw [z2 (by omega), y2 (by omega)], by rw [z3 (by omega), y3 (by omega)], g2⟩
 rw [if_neg h3, if_neg h3] at h
 have en : n = n' := by rw [z1 (by omega), y1 (by omega)]
 by_cases h5 : k = 5
 · rw [if_pos h5, if_pos h5] at h
   have := p5 h5
   have := q5 h5
   obtain ⟨g1, g2⟩ := bits_inj h b0 c0 (by omega) (by omega)
   exact ⟨en, g1, by rw [z3 (by omega), y3 (by omega)], g2⟩
 rw [if_neg h5, if_neg h5] at h
 by_cases h6 : k = 6
 · rw [if_pos h6, if_pos h6] at h
   obtain ⟨g1, g2⟩ := bits_inj h b0 c0 (by omega) (by omega)
   exact ⟨en, g1, by rw [z3 (by omega), y3 (by omega)], g2⟩
 rw [if_neg h6, if_neg h6] at h
 have eb : b = b' := by rw [z2 (by omega), y2 (by omega)]
 by_cases h7 : k = 7 ∨ k = 8
 · rw [if_pos h7, if_pos h7, List.append_assoc, List.append_assoc] at h
   obtain ⟨g1, g2⟩ := vput_inj h
   obtain ⟨g3, g4⟩ := List.append_inj g2 (by omega)
   exact ⟨en, eb, g3, g4⟩
 rw [if_neg h7, if_neg h7] at h
 by_cases h14 : k = 14
 · rw [if_pos h14, if_pos h14] at h
   have := p14 h14
   have := q14 h14
   obtain ⟨g3, g4⟩ := List.append_inj h (by omega)
   exact ⟨en, eb, g3, g4⟩
 rw [if_neg h14, if_neg h14] at h
 exact ⟨en, eb, by rw [z3 (by omega), y3 (by omega)], h⟩
mutual
theorem enc_inj (ns : List NT) : ∀ (v w : VT) (a : Int), v.inr → w.inr → isM ns a v = true → isM ns a w = true → ∀ R S, encP ns a v ++ R = encP ns a w ++ S → v = w ∧ R = S
 | .mk k n b t xs ks, .mk k' n' b' t' xs' ks', a, hi, hi', hv, hw, R, S, h => by
   have hE := items_inj ns xs
   have hK := keys_inj ns xs
   cases hnd : ns[a.toNat]? with
   | none => rw [isM, hnd] at hv; simp at hv
   | some nd =>
   obtain ⟨rfl, hb, _, p9, p12, p13, p14, p2, p5⟩ := isM_parts hnd hv
   obtain ⟨rfl, hb', _, q9, q12, q13, q14, q2, q5⟩ := isM_parts hnd hw
   rw [isM_eq hnd, Bool.and_eq_true] at hv hw
   have hx := hv.2
   have hx' := hw.2
   rw [encP_eq hnd, encP_eq hnd] at h
   obtain ⟨z1, z2, z3, z4, z5⟩ := vbare_parts hb
   obtain ⟨y1, y2, y3, y4, y5⟩ := vbare_parts hb'
   obtain ⟨⟨b0, b1⟩, hi1⟩ := hi
   obtain ⟨⟨c0, c1⟩, hi2⟩ := hi'
   by_cases h9 : nd.kind = 9
   · rw [if_pos h9, if_pos h9] at h
     have e9 : ∀ n, itemAt nd n = fun j => typeAt nd j := fun n => by funext i; rw [itemAt, if_pos h9]
     rw [e9] at hx hx'
     obtain ⟨g1, g2⟩ := hE xs' _ hi1 hi2 hx hx' (by rw [p9 h9, q9 h9]) R S h
     refine ⟨?_, g2⟩
     rw [g1, z1 (by omega), y1 (by omega), z2 (by omega), y2 (by omega), z3 (by omega), y3 (by omega), z5 (by omega), y5 (by omega)]
   rw [if_neg h9, if_neg h9] at h
   by_cases h11 : nd.kind = 11
   · rw [if_pos h11, if_pos h11] at h
     have e9 : ∀ n, itemAt nd n = fun _ => nd.items := fun n => by funext i; rw [itemAt, if_neg h9, if_neg (by omega)]
     rw [e9] at hx hx'
     obtain ⟨g0, g⟩ := blk_inj h
     have key : xs = xs' ∧ R = S := by
      rcases g with ⟨g1, g2⟩ | ⟨_, g2⟩
      · rw [List.eq_nil_of_length_eq_zero g1, List.eq_nil_of_length_eq_zero (show xs'.length = 0 by omega)]
        exact ⟨rfl, g2⟩
      · obtain ⟨g3, g4⟩ := hE xs' _ hi1 hi2 hx hx' g0 _ _ g2
        exact ⟨g3, List.append_cancel_left g4⟩
     refine ⟨?_, key.2⟩
     rw [key.1, z1 (by omega), y1 (by omega), z2 (by omega), y2 (by omega), z3 (by omega), y3 (by omega), z5 (by omega), y5 (by omega)]
   rw [if_neg h11, if_neg h11] at h
   by_cases h12 : nd.kind = 12
   · rw [if_pos h12, if_pos h12] at h
     have e9 : ∀ n, itemAt nd n = fun _ => nd.items := fun n => by funext i; rw [itemAt, if_neg h9, if_neg (by omega)]
     rw [e9] at hx hx'
     have l1 := p12 h12
     have l2 := q12 h12
     obtain ⟨g0, g⟩ := blk_inj h
     have key : (ks = ks' ∧ xs = xs') ∧ R = S := by
      rcases g with ⟨g1, g2⟩ | ⟨_, g2⟩
      · rw [List.eq_nil_of_length_eq_zero (show xs.length = 0 by omega), List.eq_nil_of_length_eq_zero (show xs'.length = 0 by omega), List.eq_nil_of_length_eq_zero (show ks.length = 0 by omega), List.eq_nil_of_length_eq_zero (show ks'.length = 0 by omega)]
        exact ⟨⟨rfl, rfl⟩, g2⟩
      · obtain ⟨g3, g4⟩ := hK xs' ks ks' _ hi1 hi2 hx hx' (by omega) (by omega) (by omega) _ _ g2
        exact ⟨g3, List.append_cancel_left g4⟩
     refine ⟨?_, key.2⟩
     rw [key.1.1, key.1.2, z1 (by omega), y1 (by omega), z2 (by omega), y2 (by omega), z3 (by omega), y3 (by omega)]
   rw [if_neg h12, if_neg h12] at h
   by_cases h13 : nd.kind = 13
   · rw [if_pos h13, if_pos h13, List.append_assoc, List.append_assoc] at h
     obtain ⟨rfl, g⟩ := vput_inj h
     have e9 : itemAt nd n = fun _ => branchAt nd n := by funext i; rw [itemAt, if_neg h9, if_pos h13]
     rw [e9] at hx hx'
     obtain ⟨g1, g2⟩ := hE xs' _ hi1 hi2 hx hx' (by rw [(p13 h13).2.2, (q13 h13).2.2]) R S g
     refine ⟨?_, g2⟩
     rw [g1, z2 (by omega), y2 (by omega), z3 (by omega), y3 (by omega), z5 (by omega), y5 (by omega)]
   rw [if_neg h13, if_neg h13] at h
   obtain ⟨g1, g2, g3, g4⟩ := leaf_inj h b0 b1 c0 c1 p14 q14 p2 q2 p5 q5 h13 z1 z2 z3 y1 y2 y3
   refine ⟨?_, g4⟩
   rw [g1, g2, g3, z5 (by omega), y5 (by omega), List.eq_nil_of_length_eq_zero (z4 (by omega)), List.eq_nil_of_length_eq_zero (y4 (by omega))]
theorem items_inj (ns : List NT) : ∀ (xs ys : List VT) (f : Nat → Int), VT.inrL xs → VT.inrL ys → eachM ns f xs = true → eachM ns f ys = true → xs.length = ys.length → ∀ R S, catP ns f xs ++ R = catP ns f ys ++ S → xs = ys ∧ R = S
 | [], [], f, _, _, _, _, _, R, S, h => ⟨rfl, by rw [catP_nil] at h; exact h⟩
 | [], y :: ys, f, _, _, _, _, hl, R, S, h => by simp at hl
 | x :: xs, [], f, _, _, _, _, hl, R, S, h => by simp at hl
 | x :: xs, y :: ys, f, hi, hj, hx, hy, hl, R, S, h => by
   rw [eachM, Bool.and_eq_true] at hx hy
   rw [catP_cons, catP_cons, List.append_assoc, List.append_assoc] at h
   obtain ⟨g1, g2⟩ := enc_inj ns x y (f 0) hi.1 hj.1 hx.1 hy.1 _ _ h
   obtain ⟨g3, g4⟩ := items_inj ns xs ys _ hi.2 hj.2 hx.2 hy.2 (by simpa using hl) _ _ g2
   exact ⟨by rw [g1, g3], g4⟩
theorem keys_inj (ns : List NT) : ∀ (xs ys : List VT) (ks js : List (List UInt8)) (f : Nat → Int), VT.inrL xs → VT.inrL ys → eachM ns f xs = true → eachM ns f ys = true → xs.length = ys.length → ks.length = xs.length → js.length = ys.length → ∀ R S, catK ns f ks xs ++ R = catK ns f js ys ++ S → (ks = js ∧ xs = ys) ∧ R = S
 | [], [], [], [], f, _, _, _, _, _, _, _, R, S, h => ⟨⟨rfl, rfl⟩, by rw [catK, encsM] at h; exact h⟩
 | [], [], [], j :: js, f, _, _, _, _, _, _, hj, R, S, h => by simp at hj
 | [], [], k :: ks, js, f, _, _, _, _, _, hk, _, R, S, h => by simp at hk
 | [], y :: ys, ks, js, f, _, _, _, _, hl, _, _, R, S, h => by simp at hl
 | x :: xs, [], ks, js, f, _, _, _, _, hl, _, _, R, S, h => by simp at hl
 | x :: xs, y :: ys, [], js, f, _, _, _, _, _, hk, _, R, S, h => by simp at hk
 | x :: xs, y :: ys, k :: ks, [], f, _, _, _, _, _, _, hj, R, S, h => by simp at hj
 | x :: xs, y :: ys, k :: ks, j :: js, f, hi, hj, hx, hy, hl, hk, hjl, R, S, h => by
   rw [eachM, Bool.and_eq_true] at hx hy
   rw [catK_cons, catK_cons] at h
   simp only [List.append_assoc] at h
   obtain ⟨a1, a2⟩ := vput_inj h
   obtain ⟨a3, a4⟩ := List.append_inj a2 (by omega)
   obtain ⟨g1, g2⟩ := enc_inj ns x y (f 0) hi.1 hj.1 hx.1 hy.1 _ _ a4
   obtain ⟨g3, g4⟩ := keys_inj ns xs ys ks js _ hi.2 hj.2 hx.2 hy.2 (by simpa using hl) (by simpa using hk) (by simpa using hjl) _ _ g2
   exact ⟨⟨by rw [a3, g3.1], by rw [g1, g3.2]⟩, g4⟩
end

structure Fine (s : ST) (d : Nat) (a : Int) (v : VT) : Prop where
 is : isM s.nodes a v = true
 deep : vdeep v ≤ d
 inr : v.inr
 lng : v.lng
 sm : v.sm 1000000
structure Items (s : ST) (d : Nat) (b : Bool) (a : Int) (zs : List VT) (ls : List (List UInt8)) : Prop where
 each : ∀ z ∈ zs, Fine s d a z
 keys : ∀ y ∈ ls, keyM y = true
 len : ls.length = if b = true then zs.length else 0
theorem Items.app {s : ST} {d : Nat} {b : Bool} {a : Int} {zs ys : List VT} {ls ms : List (List UInt8)} (h : Items s d b a zs ls) (h' : Items s d b a ys ms) : Items s d b a (zs ++ ys) (ls ++ ms) := by
 refine ⟨fun z hz => ?_, fun y hy => ?_, ?_⟩
 · rcases List.mem_append.1 hz with hz | hz
   · exact h.each z hz
   · exact h'.each z hz
 · rcases List.mem_append.1 hy with hy | hy
   · exact h.keys y hy
   · exact h'.keys y hy
 · rw [List.length_append, List.length_append, h.len, h'.len]
   split <;> rfl
def v0 : VT := .mk 0 0 0 [] [] []
noncomputable def takeM (s : ST) (a : Int) (B : List UInt8) (p : Int) : VT × Int × Int :=
 if a < 0 ∨ (s.nodes.length : Int) ≤ a ∨ p < 0 ∨ (B.length : Int) < p ∨ rightM s = false then (v0, p, 2)
 else match decM s.nodes 20 a B p.toNat with
  | .error e => (v0, p, e)
  | .ok (v, q) => (v, (q : Int), 0)

def xB (ns : List NT) (r : Int) (B : List UInt8) (p : Nat) (e : Int) : Blkd := ⟨false, 103, 5, [[.c (.sl 10 (ns.map NT.cells)), .c (.v (.int .i64 r)), .c (.sl 1 (bytePV B)), .c (.v (.int .i64 (p : Int))), .c (.v (.int .i64 e))]]⟩
def PasE (ns : List NT) (r : Int) (B : List UInt8) (a : Int) (dep : Nat) (f : Rd VT) (p : Nat) (e : Int) : Prop := ∃ (v : VT) (q : Nat) (e' : Int), Got (f B p) B e v q e' ∧
 ToldM Tryz.prog 61 [.ref 1000000 1 0 0, .c (.v (.int .i64 a)), .c (.v (.int .i64 (dep : Int)))] [xB ns r B p e] [some (xB ns r B q e')] (.tup [])
theorem kfail_told (ns : List NT) (r : Int) (B : List UInt8) (p : Nat) (e x : Int) (is : Bool) : ToldM Tryz.prog 108 [.ref 1000000 1 0 0, .c (.v (.bool is)), .c (.v (.int .i64 x))] [xB ns r B p e] [some (xB ns r B p (if is = true then (if e = 0 then x else e) else e))] (.tup []) := by
 unfold xB
 cases is with
 | false =>
   rw [if_neg (by decide)]
   refine VC.toldX ent_108 [] Tryz.func108 rfl Tryz.ntmps108 fun hb hbL => ?_
   clear hb hbL
   refine walkB ?_
   exact retZ Tryz.results108
 | true =>
 rw [if_pos rfl]
 by_cases h : e = 0
 · rw [if_pos h]
   have e1 : (e == 0) = true := by simpa using h
   refine VC.toldX ent_108 [] Tryz.func108 rfl Tryz.ntmps108 fun hb hbL => ?_
   clear hb hbL
   refine walkBF (e1) ?_
   exact retZ Tryz.results108
 · rw [if_neg h]
   have e1 : (e == 0) = false := by simpa using h
   refine VC.toldX ent_108 [] Tryz.func108 rfl Tryz.ntmps108 fun hb hbL => ?_
   clear hb hbL
   refine walkBF (e1) ?_
   exact retZ Tryz.results108
theorem knumber_told (ns : List NT) (r : Int) (B : List UInt8) (hB : B.length ≤ 1000000) (p : Nat) (hp : p ≤ B.length) (e : Int) :
  ToldM Tryz.prog 109 [.ref 1000000 1 0 0] [xB ns r B p e] [some (xB ns r B (lft rlong 0 B p e).2.1 (lft rlong 0 B p e).2.2)] (.c (.v (.int .i64 (lft rlong 0 B p e).1))) := by
 have hg := wlong_told B hB p hp e
 generalize lft rlong 0 B p e = L at hg
 unfold xB
 unfold rC at hg
 refine VC.toldX ent_109 [] Tryz.func109 rfl Tryz.ntmps109 fun hb hbL => ?_
 clear hb hbL
 refine walkG ?_
 refine walkC (hg) ?_
 refine walkG ?_
 refine retX Tryz.results109 ?_
 exact .c _
theorem kpast2_told (ns : List NT) (r : Int) (B : List UInt8) (hB : B.length ≤ 1000000) (a : Nat) (nd : NT) (hnd : ns[a]? = some nd) (hk : nd.kind = 2) (dep : Nat) (p : Nat) (hp : p ≤ B.length) (e : Int) : PasE ns r B (a : Int) dep (rleaf nd) p e := by
 have hnp : (ns.map NT.cells)[a]? = some nd.cells := by rw [List.getElem?_map, hnd]; rfl
 have ha : a < ns.length := (List.getElem?_eq_some_iff.1 hnd).1
 have e2 : (nd.kind == 2) = true := by rw [hk]; rfl
 have hR : rleaf nd = rbind rbool fun x => rret (.mk nd.kind x 0 [] [] []) := by unfold rleaf; rw [if_pos hk]
 have hG := got_map fair_bool (fun x => VT.mk nd.kind x 0 [] [] []) (got_lft fair_bool 0 hp e)
 have hT := wbool_told B hB p hp e
 rw [← hR] at hG
 generalize lft rbool 0 B p e = L at hG hT
 refine ⟨_, _, _, hG, ?_⟩
 clear hG hR
 unfold xB at *
 unfold rC at hT
 refine VC.toldX ent_61 [] Tryz.func61 rfl Tryz.ntmps61 fun hb hbL => ?_
 clear hb hbL
 refine walkBF (And.intro hnp (And.intro @ncells_mk (And.intro @len_ncells e2))) ?_
 refine walkC (hT) ?_
 refine walkBF (@ncells_mk) ?_
 exact retZ Tryz.results61
theorem kpast10_told (ns : List NT) (r : Int) (B : List UInt8) (hB : B.length ≤ 1000000) (a : Nat) (nd : NT) (hnd : ns[a]? = some nd) (hk : nd.kind = 10) (dep : Nat) (p : Nat) (hp : p ≤ B.length) (e : Int) : PasE ns r B (a : Int) dep (rleaf nd) p e := by
 have hnp : (ns.map NT.cells)[a]? = some nd.cells := by rw [List.getElem?_map, hnd]; rfl
 have ha : a < ns.length := (List.getElem?_eq_some_iff.1 hnd).1
 have e2 : (nd.kind == 2) = false := by rw [hk]; rfl
 have e10 : (nd.kind == 10) = true := by rw [hk]; rfl
 have hR : rleaf nd = rbind (rplace rint nd.symbols.length) fun x => rret (.mk nd.kind x 0 [] [] []) := by unfold rleaf; rw [if_neg (by rw [hk]; decide), if_neg (by rw [hk]; decide), if_neg (by rw [hk]; decide), if_neg (by rw [hk]; decide), if_neg (by rw [hk]; decide), if_neg (by rw [hk]; decide), if_neg (by rw [hk]; decide), if_neg (by rw [hk]; decide), if_pos hk]
 have hG := got_map (fair_place fair_int _) (fun x => VT.mk nd.kind x 0 [] [] []) (plcS_got fair_int nd.symbols.length hp e)
 have hT := wint_told B hB p hp e
 rw [← hR] at hG
 unfold plcS at hG
 generalize lft rint 0 B p e = L at hG hT
 obtain ⟨n, q, E⟩ := L
 have hF := fun is => kfail_told ns r B q E 11 is
 simp only [] at hG hT
 clear hR
 unfold rC at hT
 by_cases h1 : n < 0
 · rw [if_pos (.inl h1)] at hG
   refine ⟨_, _, _, hG, ?_⟩
   have hF := hF true
   rw [if_pos rfl] at hF
   clear hG
   simp only [] at hF ⊢
   generalize (if E = 0 then (11 : Int) else E) = E2 at hF ⊢
   have e1 : decide (n < 0) = true := by simpa using h1
   unfold xB at *
   refine VC.toldX ent_61 [] Tryz.func61 rfl Tryz.ntmps61 fun hb hbL => ?_
   clear hb hbL
   refine walkBF (And.intro hnp (And.intro @ncells_mk (And.intro @len_ncells (And.intro e2 e10)))) ?_
   refine walkC (hT) ?_
   refine walkBF (And.intro @ncells_mk e1) ?_
   refine walkLF (@ncells_mk) [1000000] (hF) ?_
   refine walkBF (@ncells_mk) ?_
   exact retZ Tryz.results61
 have e1 : decide (n < 0) = false := by simpa using h1
 by_cases h2 : (nd.symbols.length : Int) ≤ n
 · rw [if_pos (.inr h2)] at hG
   refine ⟨_, _, _, hG, ?_⟩
   have hF := hF true
   rw [if_pos rfl] at hF
   clear hG
   simp only [] at hF ⊢
   generalize (if E = 0 then (11 : Int) else E) = E2 at hF ⊢
   have e2' : decide (n ≥ (nd.symbols.length : Int)) = true := by simpa using h2
   unfold xB at *
   refine VC.toldX ent_61 [] Tryz.func61 rfl Tryz.ntmps61 fun hb hbL => ?_
   clear hb hbL
   refine walkBF (And.intro hnp (And.intro @ncells_mk (And.intro @len_ncells (And.intro e2 e10)))) ?_
   refine walkC (hT) ?_
   refine walkBF (And.intro @ncells_mk (And.intro e1 e2')) ?_
   refine walkLF (@ncells_mk) [1000000] (hF) ?_
   refine walkBF (@ncells_mk) ?_
   exact retZ Tryz.results61
 · rw [if_neg (by omega)] at hG
   refine ⟨_, _, _, hG, ?_⟩
   have hF := hF false
   rw [if_neg (by decide)] at hF
   clear hG
   have e2' : decide (n ≥ (nd.symbols.length : Int)) = false := by simpa using h2
   unfold xB at *
   refine VC.toldX ent_61 [] Tryz.func61 rfl Tryz.ntmps61 fun hb hbL => ?_
   clear hb hbL
   refine walkBF (And.intro hnp (And.intro @ncells_mk (And.intro @len_ncells (And.intro e2 e10)))) ?_
   refine walkC (hT) ?_
   refine walkBF (And.intro @ncells_mk (And.intro e1 e2')) ?_
   refine walkLF (@ncells_mk) [1000000] (hF) ?_
   refine walkBF (@ncells_mk) ?_
   exact retZ Tryz.results61
theorem kpast3_told (ns : List NT) (r : Int) (B : List UInt8) (hB : B.length ≤ 1000000) (a : Nat) (nd : NT) (hnd : ns[a]? = some nd) (hk : nd.kind = 3) (dep : Nat) (p : Nat) (hp : p ≤ B.length) (e : Int) : PasE ns r B (a : Int) dep (rleaf nd) p e := by
 have hnp : (ns.map NT.cells)[a]? = some nd.cells := by rw [List.getElem?_map, hnd]; rfl
 have ha : a < ns.length := (List.getElem?_eq_some_iff.1 hnd).1
 have e2 : (nd.kind == 2) = false := by rw [hk]; rfl
 have e10 : (nd.kind == 10) = false := by rw [hk]; rfl
 have e3 : (nd.kind == 3) = true := by rw [hk]; rfl
 have hR : rleaf nd = rbind rint fun x => rret (.mk nd.kind x 0 [] [] []) := by unfold rleaf; rw [if_neg (by rw [hk]; decide), if_pos hk]
 have hG := got_map fair_int (fun x => VT.mk nd.kind x 0 [] [] []) (got_lft fair_int 0 hp e)
 have hT := wint_told B hB p hp e
 rw [← hR] at hG
 generalize lft rint 0 B p e = L at hG hT
 refine ⟨_, _, _, hG, ?_⟩
 clear hG hR
 unfold xB at *
 unfold rC at hT
 refine VC.toldX ent_61 [] Tryz.func61 rfl Tryz.ntmps61 fun hb hbL => ?_
 clear hb hbL
 refine walkBF (And.intro hnp (And.intro @ncells_mk (And.intro @len_ncells (And.intro e2 (And.intro e10 e3))))) ?_
 refine walkC (hT) ?_
 refine walkBF (@ncells_mk) ?_
 exact retZ Tryz.results61
theorem kpast4_told (ns : List NT) (r : Int) (B : List UInt8) (hB : B.length ≤ 1000000) (a : Nat) (nd : NT) (hnd : ns[a]? = some nd) (hk : nd.kind = 4) (dep : Nat) (p : Nat) (hp : p ≤ B.length) (e : Int) : PasE ns r B (a : Int) dep (rleaf nd) p e := by
 have hnp : (ns.map NT.cells)[a]? = some nd.cells := by rw [List.getElem?_map, hnd]; rfl
 have ha : a < ns.length := (List.getElem?_eq_some_iff.1 hnd).1
 have e2 : (nd.kind == 2) = false := by rw [hk]; rfl
 have e10 : (nd.kind == 10) = false := by rw [hk]; rfl
 have e3 : (nd.kind == 3) = false := by rw [hk]; rfl
 have e4 : (nd.kind == 4) = true := by rw [hk]; rfl
 have hR : rleaf nd = rbind rlong fun x => rret (.mk nd.kind x 0 [] [] []) := by unfold rleaf; rw [if_neg (by rw [hk]; decide), if_neg (by rw [hk]; decide), if_pos hk]
 have hG := got_map fair_long (fun x => VT.mk nd.kind x 0 [] [] []) (got_lft fair_long 0 hp e)
 have hT := knumber_told ns r B hB p hp e
 rw [← hR] at hG
 generalize lft rlong 0 B p e = L at hG hT
 refine ⟨_, _, _, hG, ?_⟩
 clear hG hR
 unfold xB at *
 refine VC.toldX ent_61 [] Tryz.func61 rfl Tryz.ntmps61 fun hb hbL => ?_
 clear hb hbL
 refine walkBF (And.intro hnp (And.intro @ncells_mk (And.intro @len_ncells (And.intro e2 (And.intro e10 (And.intro e3 e4)))))) ?_
 refine walkLF (@ncells_mk) [1000000] (hT) ?_
 refine walkBF (@ncells_mk) ?_
 exact retZ Tryz.results61
theorem kpast5_told (ns : List NT) (r : Int) (B : List UInt8) (hB : B.length ≤ 1000000) (a : Nat) (nd : NT) (hnd : ns[a]? = some nd) (hk : nd.kind = 5) (dep : Nat) (p : Nat) (hp : p ≤ B.length) (e : Int) : PasE ns r B (a : Int) dep (rleaf nd) p e := by
 have hnp : (ns.map NT.cells)[a]? = some nd.cells := by rw [List.getElem?_map, hnd]; rfl
 have ha : a < ns.length := (List.getElem?_eq_some_iff.1 hnd).1
 have e2 : (nd.kind == 2) = false := by rw [hk]; rfl
 have e10 : (nd.kind == 10) = false := by rw [hk]; rfl
 have e3 : (nd.kind == 3) = false := by rw [hk]; rfl
 have e4 : (nd.kind == 4) = false := by rw [hk]; rfl
 have e5 : (nd.kind == 5) = true := by rw [hk]; rfl
 have hR : rleaf nd = rbind (rbits 4) fun x => rret (.mk nd.kind 0 x [] [] []) := by unfold rleaf; rw [if_neg (by rw [hk]; decide), if_neg (by rw [hk]; decide), if_neg (by rw [hk]; decide), if_pos hk]
 have hG := got_map (fair_bits 4) (fun x => VT.mk nd.kind 0 x [] [] []) (got_lft (fair_bits 4) 0 hp e)
 have hT := wbits_told B hB p hp e 4 (by decide)
 rw [← hR] at hG
 generalize lft (rbits 4) 0 B p e = L at hG hT
 refine ⟨_, _, _, hG, ?_⟩
 clear hG hR
 unfold xB at *
 unfold rC at hT
 rw [show ((4 : Nat) : Int) = 4 from rfl] at hT
 refine VC.toldX ent_61 [] Tryz.func61 rfl Tryz.ntmps61 fun hb hbL => ?_
 clear hb hbL
 refine walkBF (And.intro hnp (And.intro @ncells_mk (And.intro @len_ncells (And.intro e2 (And.intro e10 (And.intro e3 (And.intro e4 e5))))))) ?_
 refine walkC (hT) ?_
 refine walkBF (@ncells_mk) ?_
 exact retZ Tryz.results61
theorem kpast6_told (ns : List NT) (r : Int) (B : List UInt8) (hB : B.length ≤ 1000000) (a : Nat) (nd : NT) (hnd : ns[a]? = some nd) (hk : nd.kind = 6) (dep : Nat) (p : Nat) (hp : p ≤ B.length) (e : Int) : PasE ns r B (a : Int) dep (rleaf nd) p e := by
 have hnp : (ns.map NT.cells)[a]? = some nd.cells := by rw [List.getElem?_map, hnd]; rfl
 have ha : a < ns.length := (List.getElem?_eq_some_iff.1 hnd).1
 have e2 : (nd.kind == 2) = false := by rw [hk]; rfl
 have e10 : (nd.kind == 10) = false := by rw [hk]; rfl
 have e3 : (nd.kind == 3) = false := by rw [hk]; rfl
 have e4 : (nd.kind == 4) = false := by rw [hk]; rfl
 have e5 : (nd.kind == 5) = false := by rw [hk]; rfl
 have e6 : (nd.kind == 6) = true := by rw [hk]; rfl
 have hR : rleaf nd = rbind (rbits 8) fun x => rret (.mk nd.kind 0 x [] [] []) := by unfold rleaf; rw [if_neg (by rw [hk]; decide), if_neg (by rw [hk]; decide), if_neg (by rw [hk]; decide), if_neg (by rw [hk]; decide), if_pos hk]
 have hG := got_map (fair_bits 8) (fun x => VT.mk nd.kind 0 x [] [] []) (got_lft (fair_bits 8) 0 hp e)
 have hT := wbits_told B hB p hp e 8 (by decide)
 rw [← hR] at hG
 generalize lft (rbits 8) 0 B p e = L at hG hT
 refine ⟨_, _, _, hG, ?_⟩
 clear hG hR
 unfold xB at *
 unfold rC at hT
 rw [show ((8 : Nat) : Int) = 8 from rfl] at hT
 refine VC.toldX ent_61 [] Tryz.func61 rfl Tryz.ntmps61 fun hb hbL => ?_
 clear hb hbL
 refine walkBF (And.intro hnp (And.intro @ncells_mk (And.intro @len_ncells (And.intro e2 (And.intro e10 (And.intro e3 (And.intro e4 (And.intro e5 e6)))))))) ?_
 refine walkC (hT) ?_
 refine walkBF (@ncells_mk) ?_
 exact retZ Tryz.results61
theorem kpast7_told (ns : List NT) (r : Int) (B : List UInt8) (hB : B.length ≤ 1000000) (a : Nat) (nd : NT) (hnd : ns[a]? = some nd) (hk : nd.kind = 7) (dep : Nat) (p : Nat) (hp : p ≤ B.length) (e : Int) : PasE ns r B (a : Int) dep (rleaf nd) p e := by
 have hnp : (ns.map NT.cells)[a]? = some nd.cells := by rw [List.getElem?_map, hnd]; rfl
 have ha : a < ns.length := (List.getElem?_eq_some_iff.1 hnd).1
 have e2 : (nd.kind == 2) = false := by rw [hk]; rfl
 have e10 : (nd.kind == 10) = false := by rw [hk]; rfl
 have e3 : (nd.kind == 3) = false := by rw [hk]; rfl
 have e4 : (nd.kind == 4) = false := by rw [hk]; rfl
 have e5 : (nd.kind == 5) = false := by rw [hk]; rfl
 have e6 : (nd.kind == 6) = false := by rw [hk]; rfl
 have e7 : (nd.kind == 7) = true := by rw [hk]; rfl
 have hR : rleaf nd = rbind rbytes fun x => rret (.mk nd.kind 0 0 x [] []) := by unfold rleaf; rw [if_neg (by rw [hk]; decide), if_neg (by rw [hk]; decide), if_neg (by rw [hk]; decide), if_neg (by rw [hk]; decide), if_neg (by rw [hk]; decide), if_pos hk]
 have hG := got_map fair_bytes (fun x => VT.mk nd.kind 0 0 x [] []) (got_lft fair_bytes [] hp e)
 have hT := wbytes_told B hB p hp e
 rw [← hR] at hG
 generalize lft rbytes [] B p e = L at hG hT
 refine ⟨_, _, _, hG, ?_⟩
 clear hG hR
 unfold xB at *
 unfold rC at hT
 refine VC.toldX ent_61 [] Tryz.func61 rfl Tryz.ntmps61 fun hb hbL => ?_
 clear hb hbL
 refine walkBF (And.intro hnp (And.intro @ncells_mk (And.intro @len_ncells (And.intro e2 (And.intro e10 (And.intro e3 (And.intro e4 (And.intro e5 (And.intro e6 e7))))))))) ?_
 refine walkC (hT) ?_
 refine walkBF (@ncells_mk) ?_
 exact retZ Tryz.results61
theorem kpast8_told (ns : List NT) (r : Int) (B : List UInt8) (hB : B.length ≤ 1000000) (a : Nat) (nd : NT) (hnd : ns[a]? = some nd) (hk : nd.kind = 8) (dep : Nat) (p : Nat) (hp : p ≤ B.length) (e : Int) : PasE ns r B (a : Int) dep (rleaf nd) p e := by
 have hnp : (ns.map NT.cells)[a]? = some nd.cells := by rw [List.getElem?_map, hnd]; rfl
 have ha : a < ns.length := (List.getElem?_eq_some_iff.1 hnd).1
 have e2 : (nd.kind == 2) = false := by rw [hk]; rfl
 have e10 : (nd.kind == 10) = false := by rw [hk]; rfl
 have e3 : (nd.kind == 3) = false := by rw [hk]; rfl
 have e4 : (nd.kind == 4) = false := by rw [hk]; rfl
 have e5 : (nd.kind == 5) = false := by rw [hk]; rfl
 have e6 : (nd.kind == 6) = false := by rw [hk]; rfl
 have e7 : (nd.kind == 7) = false := by rw [hk]; rfl
 have e8 : (nd.kind == 8) = true := by rw [hk]; rfl
 have hR : rleaf nd = rbind rtext fun x => rret (.mk nd.kind 0 0 x [] []) := by unfold rleaf; rw [if_neg (by rw [hk]; decide), if_neg (by rw [hk]; decide), if_neg (by rw [hk]; decide), if_neg (by rw [hk]; decide), if_neg (by rw [hk]; decide), if_neg (by rw [hk]; decide), if_pos hk]
 have hG := got_map fair_text (fun x => VT.mk nd.kind 0 0 x [] []) (got_lft fair_text [] hp e)
 have hT := wtext_told B hB p hp e
 rw [← hR] at hG
 generalize lft rtext [] B p e = L at hG hT
 refine ⟨_, _, _, hG, ?_⟩
 clear hG hR
 unfold xB at *
 unfold rC at hT
 refine VC.toldX ent_61 [] Tryz.func61 rfl Tryz.ntmps61 fun hb hbL => ?_
 clear hb hbL
 refine walkBF (And.intro hnp (And.intro @ncells_mk (And.intro @len_ncells (And.intro e2 (And.intro e10 (And.intro e3 (And.intro e4 (And.intro e5 (And.intro e6 (And.intro e7 e8)))))))))) ?_
 refine walkC (hT) ?_
 refine walkBF (@ncells_mk) ?_
 exact retZ Tryz.results61
theorem kpast14_told (ns : List NT) (r : Int) (B : List UInt8) (hB : B.length ≤ 1000000) (a : Nat) (nd : NT) (hnd : ns[a]? = some nd) (hk : nd.kind = 14) (hsz : 0 ≤ nd.size ∧ nd.size ≤ 1000000) (dep : Nat) (p : Nat) (hp : p ≤ B.length) (e : Int) : PasE ns r B (a : Int) dep (rleaf nd) p e := by
 have hnp : (ns.map NT.cells)[a]? = some nd.cells := by rw [List.getElem?_map, hnd]; rfl
 have ha : a < ns.length := (List.getElem?_eq_some_iff.1 hnd).1
 have e2 : (nd.kind == 2) = false := by rw [hk]; rfl
 have e10 : (nd.kind == 10) = false := by rw [hk]; rfl
 have e3 : (nd.kind == 3) = false := by rw [hk]; rfl
 have e4 : (nd.kind == 4) = false := by rw [hk]; rfl
 have e5 : (nd.kind == 5) = false := by rw [hk]; rfl
 have e6 : (nd.kind == 6) = false := by rw [hk]; rfl
 have e7 : (nd.kind == 7) = false := by rw [hk]; rfl
 have e8 : (nd.kind == 8) = false := by rw [hk]; rfl
 have e14 : (nd.kind == 14) = true := by rw [hk]; rfl
 have hR : rleaf nd = rbind (rnext nd.size.toNat) fun x => rret (.mk nd.kind 0 0 x [] []) := by unfold rleaf; rw [if_neg (by rw [hk]; decide), if_neg (by rw [hk]; decide), if_neg (by rw [hk]; decide), if_neg (by rw [hk]; decide), if_neg (by rw [hk]; decide), if_neg (by rw [hk]; decide), if_neg (by rw [hk]; decide), if_pos hk]
 have hG := got_map (fair_next nd.size.toNat) (fun x => VT.mk nd.kind 0 0 x [] []) (got_lft (fair_next nd.size.toNat) [] hp e)
 have hT := wfixed_told B hB p hp e nd.size (by omega) (by omega)
 rw [← hR] at hG
 generalize lft (rnext nd.size.toNat) [] B p e = L at hG hT
 refine ⟨_, _, _, hG, ?_⟩
 clear hG hR
 unfold xB at *
 unfold rC at hT
 refine VC.toldX ent_61 [] Tryz.func61 rfl Tryz.ntmps61 fun hb hbL => ?_
 clear hb hbL
 refine walkBF (And.intro hnp (And.intro @ncells_mk (And.intro @len_ncells (And.intro e2 (And.intro e10 (And.intro e3 (And.intro e4 (And.intro e5 (And.intro e6 (And.intro e7 (And.intro e8 e14))))))))))) ?_
 refine walkC (hT) ?_
 refine walkBF (@ncells_mk) ?_
 exact retZ Tryz.results61
theorem kpast1_told (ns : List NT) (r : Int) (B : List UInt8) (a : Nat) (nd : NT) (hnd : ns[a]? = some nd) (hk : nd.kind = 1) (dep : Nat) (p : Nat) (hp : p ≤ B.length) (e : Int) : PasE ns r B (a : Int) dep (rleaf nd) p e := by
 have hnp : (ns.map NT.cells)[a]? = some nd.cells := by rw [List.getElem?_map, hnd]; rfl
 have ha : a < ns.length := (List.getElem?_eq_some_iff.1 hnd).1
 have e2 : (nd.kind == 2) = false := by rw [hk]; rfl
 have e10 : (nd.kind == 10) = false := by rw [hk]; rfl
 have e3 : (nd.kind == 3) = false := by rw [hk]; rfl
 have e4 : (nd.kind == 4) = false := by rw [hk]; rfl
 have e5 : (nd.kind == 5) = false := by rw [hk]; rfl
 have e6 : (nd.kind == 6) = false := by rw [hk]; rfl
 have e7 : (nd.kind == 7) = false := by rw [hk]; rfl
 have e8 : (nd.kind == 8) = false := by rw [hk]; rfl
 have e14 : (nd.kind == 14) = false := by rw [hk]; rfl
 have e9 : (nd.kind == 9) = false := by rw [hk]; rfl
 have e13 : (nd.kind == 13) = false := by rw [hk]; rfl
 have e11 : (nd.kind == 11) = false := by rw [hk]; rfl
 have e12 : (nd.kind == 12) = false := by rw [hk]; rfl
 have hR : rleaf nd = rret (.mk nd.kind 0 0 [] [] []) := by unfold rleaf; rw [if_neg (by rw [hk]; decide), if_neg (by rw [hk]; decide), if_neg (by rw [hk]; decide), if_neg (by rw [hk]; decide), if_neg (by rw [hk]; decide), if_neg (by rw [hk]; decide), if_neg (by rw [hk]; decide), if_neg (by rw [hk]; decide), if_neg (by rw [hk]; decide)]
 have hG : Got (rleaf nd B p) B e (VT.mk nd.kind 0 0 [] [] []) p e := by
  rw [hR]
  refine ⟨hp, fun _ => rfl, fun x _ hx => ?_, fun w q' h0 hx => ?_⟩
  · unfold rret at hx; simp at hx
  · unfold rret at hx
    injection hx with hx
    injection hx with hx hx'
    exact ⟨hx, hx', h0⟩
 refine ⟨_, _, _, hG, ?_⟩
 clear hG hR
 unfold xB at *
 refine VC.toldX ent_61 [] Tryz.func61 rfl Tryz.ntmps61 fun hb hbL => ?_
 clear hb hbL
 refine walkBF (And.intro hnp (And.intro @ncells_mk (And.intro @len_ncells (And.intro e2 (And.intro e10 (And.intro e3 (And.intro e4 (And.intro e5 (And.intro e6 (And.intro e7 (And.intro e8 (And.intro e14 (And.intro e9 (And.intro e13 (And.intro e11 e12))))))))))))))) ?_
 exact retZ Tryz.results61
theorem kleaf_told (ns : List NT) (r : Int) (B : List UInt8) (hB : B.length ≤ 1000000) (a : Nat) (nd : NT) (hnd : ns[a]? = some nd) (hN : nodeM ns nd = true) (hk : isComp nd.kind = false) (dep : Nat) (p : Nat) (hp : p ≤ B.length) (e : Int) : PasE ns r B (a : Int) dep (rleaf nd) p e := by
 unfold nodeM at hN
 simp only [Bool.and_eq_true, decide_eq_true_eq] at hN
 obtain ⟨⟨k1, k2, _⟩, _, hS⟩ := hN
 unfold isComp at hk
 simp at hk
 by_cases h2 : nd.kind = 2
 · exact kpast2_told ns r B hB a nd hnd h2 dep p hp e
 by_cases h3 : nd.kind = 3
 · exact kpast3_told ns r B hB a nd hnd h3 dep p hp e
 by_cases h4 : nd.kind = 4
 · exact kpast4_told ns r B hB a nd hnd h4 dep p hp e
 by_cases h5 : nd.kind = 5
 · exact kpast5_told ns r B hB a nd hnd h5 dep p hp e
 by_cases h6 : nd.kind = 6
 · exact kpast6_told ns r B hB a nd hnd h6 dep p hp e
 by_cases h7 : nd.kind = 7
 · exact kpast7_told ns r B hB a nd hnd h7 dep p hp e
 by_cases h8 : nd.kind = 8
 · exact kpast8_told ns r B hB a nd hnd h8 dep p hp e
 by_cases h14 : nd.kind = 14
 · rw [h14, if_neg (by decide), if_neg (by decide), if_pos rfl] at hS
   simp only [Bool.and_eq_true, decide_eq_true_eq] at hS
   exact kpast14_told ns r B hB a nd hnd h14 ⟨hS.1, by omega⟩ dep p hp e
 by_cases h10 : nd.kind = 10
 · exact kpast10_told ns r B hB a nd hnd h10 dep p hp e
 · exact kpast1_told ns r B a nd hnd (by omega) dep p hp e

def KasT (ns : List NT) (r : Int) (B : List UInt8) (a : Int) (dep : Nat) (val : Nat → Int → VT × Nat × Int) : Prop := ∀ p e, p ≤ B.length →
 ToldM Tryz.prog 61 [.ref 1000000 1 0 0, .c (.v (.int .i64 a)), .c (.v (.int .i64 (dep : Int)))] [xB ns r B p e] [some (xB ns r B (val p e).2.1 (val p e).2.2)] (.tup [])
theorem fldS_no {val : Int → Nat → Int → VT × Nat × Int} {p : Nat} {e : Int} (he : e ≠ 0) : ∀ (ts : List FT) (xs : List VT), fldS val ts xs p e = (xs, p, e)
 | [], xs => by rw [fldS]
 | t :: ts, xs => by rw [fldS, if_neg he]
theorem kcomp9_told (ns : List NT) (r : Int) (B : List UInt8) (hB : B.length ≤ 1000000) (nd : NT) (hk : nd.kind = 9) (hfl : nd.fields.length ≤ 1000000) (dep : Nat) (val : Int → Nat → Int → VT × Nat × Int) (p0 : Nat) (hp0 : p0 ≤ B.length) (e0 : Int)
  (hV : e0 = 0 → ∀ t ∈ nd.fields, KasT ns r B t.type dep (val t.type)) (hle : e0 = 0 → ∀ t ∈ nd.fields, ∀ p e, p ≤ B.length → (val t.type p e).2.1 ≤ B.length) (F : Nat × Int) (hF : F = (fldS val nd.fields [] p0 e0).2) :
  ToldM Tryz.prog 114 [.ref 1000000 1 0 0, nd.av, .c (.v (.int .i64 (dep : Int)))] [xB ns r B p0 e0] [some (xB ns r B F.1 F.2)] (.tup []) := by
 have e9 : (nd.kind == 9) = true := by simpa using hk
 rw [NT.av_eq]
 unfold xB
 refine VC.toldX ent_114 [] Tryz.func114 rfl Tryz.ntmps114 fun hb hbL => ?_
 clear hb hbL
 refine walkBF (And.intro @ncells_mk e9) ?_
 refine VC.loop (ι := {s : Nat × List VT × Nat × Int // s.1 ≤ nd.fields.length ∧ s.2.2.1 ≤ B.length ∧ F = (fldS val (nd.fields.drop s.1) s.2.1 s.2.2.1 s.2.2.2).2 ∧ (e0 ≠ 0 → s.2.2.2 ≠ 0)})
  (fun s => [(0, .ref 1000000 1 0 0), (2, .c (.v (.int .i64 (dep : Int)))), (18, .c (.sl 9 (nd.fields.map FT.cells))), (19, .c (.v (.int .i64 (nd.fields.length : Int)))), (20, .c (.v (.int .i64 (s.1.1 : Int))))])
  (fun s => [(1000000, ⟨false, 103, 5, [[.c (.sl 10 (ns.map NT.cells)), .c (.v (.int .i64 r)), .c (.sl 1 (bytePV B)), .c (.v (.int .i64 (s.1.2.2.1 : Int))), .c (.v (.int .i64 s.1.2.2.2))]]⟩)]) 2000 (fun s => nd.fields.length - s.1.1)
  ⟨(0, [], p0, e0), Nat.zero_le _, hp0, hF, fun h => h⟩ ?_ ?_
 · exact weakZF (@ncells_mk)
 rintro ⟨⟨i, xs, p, e⟩, h1, h3, h4, h5⟩
 simp only [] at h1 h3 h4 h5 ⊢
 refine walkG ?_
 refine VC.cond (by rfl) (by trivial) (fun hd => ?_) (fun hd => ?_)
 rotate_left
 · have hie : i = nd.fields.length := by simp at hd; omega
   rw [hie, List.drop_length, fldS] at h4
   subst h4
   refine walkB ?_
   exact retZ Tryz.results114
 have hlt : i < nd.fields.length := by simp at hd; omega
 obtain ⟨fd, hx⟩ : ∃ fd, nd.fields[i]? = some fd := ⟨nd.fields[i], List.getElem?_eq_getElem hlt⟩
 have hmem := List.mem_of_getElem? hx
 have hxq : (nd.fields.map FT.cells)[i]? = some fd.cells := by rw [List.getElem?_map, hx]; rfl
 have hw : IntKind.i64.wrap ((i : Int) + 1) = ((i + 1 : Nat) : Int) := by rw [wrap64_id (by omega) (by omega)]; omega
 have hdr : nd.fields.drop i = fd :: nd.fields.drop (i + 1) := by
  rw [List.drop_eq_getElem_cons hlt]
  congr 1
  exact Option.some.inj ((List.getElem?_eq_getElem hlt).symm.trans hx)
 by_cases h0 : e = 0
 · subst h0
   have he0 : e0 = 0 := Decidable.not_not.1 fun h => h5 h rfl
   have g4 := h4
   rw [hdr, fldS, if_pos rfl] at g4
   have hX := hV he0 fd hmem p 0 h3
   have hql := hle he0 fd hmem p 0 h3
   obtain ⟨v, q2, e2, hvv⟩ : ∃ a b c, val fd.type p 0 = (a, b, c) := ⟨_, _, _, rfl⟩
   rw [hvv] at hX hql g4
   simp only [] at hX hql g4
   unfold xB at hX
   refine walkBF (And.intro @ncells_mk (And.intro hxq (And.intro @fcells_mk (And.intro @len_fcells (And.intro @take_fcells (And.intro @take_fcellsC (And.intro @len_cells (And.intro @take_cells @take_cellsC)))))))) ?_
   refine walkL [1000000] (hX) ?_
   refine walkBF (hw) ?_
   refine .next ⟨(i + 1, xs ++ [v], q2, e2), hlt, hql, g4, fun h => absurd he0 h⟩ ?_ (by simp only []; omega)
   exact weakZF (@ncells_mk)
 · have g4 := h4
   rw [fldS_no h0] at g4
   have e1 : (e == 0) = false := by simpa using h0
   refine walkBF (And.intro @ncells_mk (And.intro hxq (And.intro @fcells_mk (And.intro @len_fcells (And.intro @take_fcells (And.intro @take_fcellsC (And.intro @len_cells (And.intro @take_cells (And.intro @take_cellsC (And.intro e1 hw)))))))))) ?_
   refine .next ⟨(i + 1, xs, p, e), hlt, h3, by simp only []; rw [fldS_no h0]; exact g4, h5⟩ ?_ (by simp only []; omega)
   exact weakZF (@ncells_mk)
theorem kcomp13_told (ns : List NT) (r : Int) (B : List UInt8) (hB : B.length ≤ 1000000) (nd : NT) (hk : nd.kind = 13) (hbl : 1 ≤ nd.branches.length ∧ nd.branches.length ≤ 1000000) (dep : Nat) (val : Int → Nat → Int → VT × Nat × Int)
  (p0 : Nat) (hp0 : p0 ≤ B.length) (e0 : Int) (hV : e0 = 0 → ∀ a ∈ nd.branches, KasT ns r B a dep (val a)) (P : Int × Nat × Int) (hP : P = plcS rlong B nd.branches.length p0 e0) (F : Nat × Int) (hF : F = if P.2.2 = 0 then (val (branchAt nd P.1) P.2.1 0).2 else P.2) :
  ToldM Tryz.prog 114 [.ref 1000000 1 0 0, nd.av, .c (.v (.int .i64 (dep : Int)))] [xB ns r B p0 e0] [some (xB ns r B F.1 F.2)] (.tup []) := by
 have e9 : (nd.kind == 9) = false := by simp; omega
 have e13 : (nd.kind == 13) = true := by simpa using hk
 have hN := knumber_told ns r B hB p0 hp0 e0
 have hgl := got_lft fair_long 0 hp0 e0
 have hz := lft_zero (f := rlong) (0 : Int) (B := B) (p := p0) (e := e0)
 unfold plcS at hP
 generalize lft rlong 0 B p0 e0 = L at hN hgl hP hz
 obtain ⟨n, q, E⟩ := L
 have hno := hgl.no
 have hql := hgl.le
 clear hgl
 simp only [] at hN hP hz hno hql
 have hF2 := fun is => kfail_told ns r B q E 11 is
 rw [NT.av_eq]
 unfold xB at *
 by_cases hr : n < 0 ∨ (nd.branches.length : Int) ≤ n
 · rw [if_pos hr] at hP
   subst hP
   have hF2 := hF2 true
   rw [if_pos rfl] at hF2
   obtain ⟨E2, hE2⟩ : ∃ E2, E2 = (if E = 0 then (11 : Int) else E) := ⟨_, rfl⟩
   have hE0 : E2 ≠ 0 := by rw [hE2]; split <;> omega
   simp only [] at hF
   rw [← hE2] at hF2 hF
   rw [if_neg hE0] at hF
   subst hF
   have e4 : (E2 == 0) = false := by simpa using hE0
   clear hE2
   by_cases h1 : n < 0
   · have e1 : decide (n < 0) = true := by simpa using h1
     refine VC.toldX ent_114 [] Tryz.func114 rfl Tryz.ntmps114 fun hb hbL => ?_
     clear hb hbL
     refine walkBF (And.intro @ncells_mk (And.intro e9 e13)) ?_
     refine walkLF (@ncells_mk) [1000000] (hN) ?_
     refine walkBF (And.intro @ncells_mk e1) ?_
     refine walkLF (@ncells_mk) [1000000] (hF2) ?_
     refine walkBF (And.intro @ncells_mk e4) ?_
     exact retZ Tryz.results114
   · have e1 : decide (n < 0) = false := by simpa using h1
     have e2' : decide (n ≥ (nd.branches.length : Int)) = true := by simp; omega
     refine VC.toldX ent_114 [] Tryz.func114 rfl Tryz.ntmps114 fun hb hbL => ?_
     clear hb hbL
     refine walkBF (And.intro @ncells_mk (And.intro e9 e13)) ?_
     refine walkLF (@ncells_mk) [1000000] (hN) ?_
     refine walkBF (And.intro @ncells_mk (And.intro e1 e2')) ?_
     refine walkLF (@ncells_mk) [1000000] (hF2) ?_
     refine walkBF (And.intro @ncells_mk e4) ?_
     exact retZ Tryz.results114
 rw [if_neg hr] at hP
 subst hP
 have hF2 := hF2 false
 rw [if_neg (by decide)] at hF2
 have e1 : decide (n < 0) = false := by simp; omega
 have e2' : decide (n ≥ (nd.branches.length : Int)) = false := by simp; omega
 simp only [] at hF
 by_cases h0 : E = 0
 · rw [if_pos h0] at hF
   subst h0
   have he0 : e0 = 0 := Decidable.not_not.1 fun h => h (hno h).symm
   have hlt : n.toNat < nd.branches.length := by omega
   have hba : nd.branches[n.toNat]? = some (branchAt nd n) := by rw [branchAt, List.getElem?_eq_getElem hlt]
   have hbp : (nd.branches.map iPV)[n.toNat]? = some [.v (.int .i64 (branchAt nd n))] := by rw [List.getElem?_map, hba]; rfl
   have hX := hV he0 _ (List.mem_of_getElem? hba) q 0 hql
   generalize branchAt nd n = a at hX hF hbp
   obtain ⟨v, q2, e2, hvv⟩ : ∃ x y z, val a q 0 = (x, y, z) := ⟨_, _, _, rfl⟩
   rw [hvv] at hX hF
   simp only [] at hX hF
   unfold xB at hX
   subst hF
   refine VC.toldX ent_114 [] Tryz.func114 rfl Tryz.ntmps114 fun hb hbL => ?_
   clear hb hbL
   refine walkBF (And.intro @ncells_mk (And.intro e9 e13)) ?_
   refine walkLF (@ncells_mk) [1000000] (hN) ?_
   refine walkBF (And.intro @ncells_mk (And.intro e1 e2')) ?_
   refine walkLF (@ncells_mk) [1000000] (hF2) ?_
   refine walkBF (And.intro @ncells_mk hbp) ?_
   refine walkLF (@ncells_mk) [1000000] (hX) ?_
   refine walkBF (@ncells_mk) ?_
   exact retZ Tryz.results114
 · rw [if_neg h0] at hF
   subst hF
   have e4 : (E == 0) = false := by simpa using h0
   refine VC.toldX ent_114 [] Tryz.func114 rfl Tryz.ntmps114 fun hb hbL => ?_
   clear hb hbL
   refine walkBF (And.intro @ncells_mk (And.intro e9 e13)) ?_
   refine walkLF (@ncells_mk) [1000000] (hN) ?_
   refine walkBF (And.intro @ncells_mk (And.intro e1 e2')) ?_
   refine walkLF (@ncells_mk) [1000000] (hF2) ?_
   refine walkBF (And.intro @ncells_mk e4) ?_
   exact retZ Tryz.results114
theorem kcomp11_told (ns : List NT) (r : Int) (B : List UInt8) (nd : NT) (hk : nd.kind = 11 ∨ nd.kind = 12) (dep : Nat) (p q : Nat) (e e' : Int)
  (hI : ToldM Tryz.prog 168 [.ref 1000000 1 0 0, nd.av, .c (.v (.int .i64 (dep : Int)))] [xB ns r B p e] [some (xB ns r B q e')] (.tup [])) :
  ToldM Tryz.prog 114 [.ref 1000000 1 0 0, nd.av, .c (.v (.int .i64 (dep : Int)))] [xB ns r B p e] [some (xB ns r B q e')] (.tup []) := by
 have e9 : (nd.kind == 9) = false := by simp; omega
 have e13 : (nd.kind == 13) = false := by simp; omega
 rw [NT.av_eq] at hI ⊢
 unfold xB at *
 refine VC.toldX ent_114 [] Tryz.func114 rfl Tryz.ntmps114 fun hb hbL => ?_
 clear hb hbL
 refine walkBF (And.intro @ncells_mk (And.intro e9 e13)) ?_
 refine walkLF (@ncells_mk) [1000000] (hI) ?_
 refine walkB ?_
 exact retZ Tryz.results114

theorem val_of {ns : List NT} {r : Int} {B : List UInt8} {dep : Nat} {f : Int → Rd VT} (H : ∀ a : Int, 0 ≤ a → a < (ns.length : Int) → ∀ p e, p ≤ B.length → ValE ns r B a dep (f a) p e) :
  ∃ val : Int → Nat → Int → VT × Nat × Int, ∀ a : Int, 0 ≤ a → a < (ns.length : Int) → (∀ p e, p ≤ B.length → Got (f a B p) B e (val a p e).1 (val a p e).2.1 (val a p e).2.2) ∧ ValT ns r B a dep (val a) := by
 have key : ∀ (a : Int) (p : Nat) (e : Int), ∃ t : VT × Nat × Int, 0 ≤ a → a < (ns.length : Int) → p ≤ B.length → Got (f a B p) B e t.1 t.2.1 t.2.2 ∧
   ToldM Tryz.prog 62 [.ref 1000000 1 0 0, .c (.v (.int .i64 a)), .c (.v (.int .i64 (dep : Int)))] [dB ns r B p e] [some (dB ns r B t.2.1 t.2.2)] t.1.av := by
  intro a p e
  by_cases h : 0 ≤ a ∧ a < (ns.length : Int) ∧ p ≤ B.length
  · obtain ⟨v, q, e', h1, h2⟩ := H a h.1 h.2.1 p e h.2.2
    exact ⟨(v, q, e'), fun _ _ _ => ⟨h1, h2⟩⟩
  · exact ⟨(v0, 0, 0), fun h1 h2 h3 => absurd ⟨h1, h2, h3⟩ h⟩
 refine ⟨fun a p e => Classical.choose (key a p e), fun a h1 h2 => ⟨fun p e h3 => ?_, fun p e h3 => ?_⟩⟩
 · exact (Classical.choose_spec (key a p e) h1 h2 h3).1
 · exact (Classical.choose_spec (key a p e) h1 h2 h3).2
theorem dleaf_told (ns : List NT) (r : Int) (B : List UInt8) (hB : B.length ≤ 1000000) (a : Nat) (nd : NT) (hnd : ns[a]? = some nd) (hN : nodeM ns nd = true) (hk : isComp nd.kind = false) (dep : Nat) (p : Nat) (hp : p ≤ B.length) (e : Int) : ValE ns r B (a : Int) dep (rleaf nd) p e := by
 unfold nodeM at hN
 simp only [Bool.and_eq_true, decide_eq_true_eq] at hN
 obtain ⟨⟨k1, k2, _⟩, _, hS⟩ := hN
 unfold isComp at hk
 simp at hk
 by_cases h2 : nd.kind = 2
 · exact dval2_told ns r B hB a nd hnd h2 dep p hp e
 by_cases h3 : nd.kind = 3
 · exact dval3_told ns r B hB a nd hnd h3 dep p hp e
 by_cases h4 : nd.kind = 4
 · exact dval4_told ns r B hB a nd hnd h4 dep p hp e
 by_cases h5 : nd.kind = 5
 · exact dval5_told ns r B hB a nd hnd h5 dep p hp e
 by_cases h6 : nd.kind = 6
 · exact dval6_told ns r B hB a nd hnd h6 dep p hp e
 by_cases h7 : nd.kind = 7
 · exact dval7_told ns r B hB a nd hnd h7 dep p hp e
 by_cases h8 : nd.kind = 8
 · exact dval8_told ns r B hB a nd hnd h8 dep p hp e
 by_cases h14 : nd.kind = 14
 · rw [h14, if_neg (by decide), if_neg (by decide), if_pos rfl] at hS
   simp only [Bool.and_eq_true, decide_eq_true_eq] at hS
   exact dval14_told ns r B hB a nd hnd h14 ⟨hS.1, by omega⟩ dep p hp e
 by_cases h10 : nd.kind = 10
 · exact dval10_told ns r B hB a nd hnd h10 dep p hp e
 · exact dval1_told ns r B a nd hnd (by omega) dep p hp e
theorem ditems_any (ns : List NT) (r : Int) (B : List UInt8) (hB : B.length ≤ 1000000) (nd : NT) (dep : Nat) {f : Rd VT} (hf : Fair f) (val : Nat → Int → VT × Nat × Int) (hg : ∀ p e, p ≤ B.length → Got (f B p) B e (val p e).1 (val p e).2.1 (val p e).2.2) (hV : ValT ns r B nd.items dep val) (p : Nat) (hp : p ≤ B.length) (e : Int) :
  ∃ (xs : List VT) (ks : List (List UInt8)) (q : Nat) (e' : Int), Got (rblks (ritem (nd.kind == 12) f) 301 [] [] B p) B e (xs, ks) q e' ∧
   ToldM Tryz.prog 170 [.ref 1000000 1 0 0, nd.av, .c (.v (.int .i64 (dep : Int)))] [dB ns r B p e] [some (dB ns r B q e')] (.tup [.c (.sl 6 (xs.map VT.cells)), .c (.sl 1 (ks.map sPV))]) := by
 by_cases h : e = 0
 · subst h
   have key : ∀ h p : Nat, ∃ t : Nat × Nat × Int, h ≤ 300 → p ≤ B.length → Got (rcount h B p) B 0 t.1 t.2.1 t.2.2 ∧ (t.2.2 ≠ 0 → t.1 = 0) ∧
     ToldM Tryz.prog 208 [.ref 1000000 1 0 0, .c (.v (.int .i64 (h : Int)))] [dB ns r B p 0] [some (dB ns r B t.2.1 t.2.2)] (.c (.v (.int .i64 (t.1 : Int)))) := by
    intro h p
    by_cases hh : h ≤ 300 ∧ p ≤ B.length
    · obtain ⟨m, q, e', h1, h2, h3⟩ := dcount_told ns r B hB p hh.2 0 h hh.1
      exact ⟨(m, q, e'), fun _ _ => ⟨h1, h2, h3⟩⟩
    · exact ⟨(0, 0, 0), fun h1 h2 => absurd ⟨h1, h2⟩ hh⟩
   obtain ⟨cnt, hcnt⟩ : ∃ cnt : Nat → Nat → Nat × Nat × Int, ∀ h p : Nat, h ≤ 300 → p ≤ B.length → Got (rcount h B p) B 0 (cnt h p).1 (cnt h p).2.1 (cnt h p).2.2 ∧ ((cnt h p).2.2 ≠ 0 → (cnt h p).1 = 0) ∧
     ToldM Tryz.prog 208 [.ref 1000000 1 0 0, .c (.v (.int .i64 (h : Int)))] [dB ns r B p 0] [some (dB ns r B (cnt h p).2.1 (cnt h p).2.2)] (.c (.v (.int .i64 ((cnt h p).1 : Int)))) :=
    ⟨fun h p => Classical.choose (key h p), fun h p h1 h2 => Classical.choose_spec (key h p) h1 h2⟩
   have hcl : ∀ h p, h ≤ 300 → p ≤ B.length → (cnt h p).1 + h ≤ 300 ∧ (cnt h p).2.1 ≤ B.length ∧ ((cnt h p).2.2 ≠ 0 → (cnt h p).1 = 0) := by
    intro h p h1 h2
    obtain ⟨g1, g2, _⟩ := hcnt h p h1 h2
    refine ⟨?_, g1.le, g2⟩
    by_cases h0 : (cnt h p).2.2 = 0
    · exact count_le ((g1.is (fair_count _)).1 h0) h1
    · rw [g2 h0]; omega
   have hT := ditems_told ns r B hB nd dep val hV (fun p e hp => (hg p e hp).le) cnt (fun h p h1 h2 => (hcnt h p h1 h2).2.2) hcl p hp _ rfl
   have hG := blkS_got (fair_item (nd.kind == 12) hf) (itemS_ok hf hg (nd.kind == 12)) (cnt := cnt) (fun h p h1 h2 => ⟨(hcnt h p h1 h2).1, (hcnt h p h1 h2).2.1⟩) 301 [] [] p hp (by simp)
   exact ⟨_, _, _, _, hG, hT⟩
 · exact ⟨[], [], p, e, ⟨hp, fun _ => rfl, fun x h0 => absurd h0 h, fun w q' h0 => absurd h0 h⟩, ditems_bad ns r B hB nd dep p hp e h⟩
theorem dvalue_told (s : ST) (hr : rightM s = true) (r : Int) (B : List UInt8) (hB : B.length ≤ 1000000) : ∀ (d : Nat), d ≤ 20 → ∀ a : Int, 0 ≤ a → a < (s.nodes.length : Int) → ∀ p e, p ≤ B.length → ValE s.nodes r B a (20 - d) (decM s.nodes d a) p e := by
 intro d
 induction d with
 | zero =>
   intro _ a ha ha' p e hp
   obtain ⟨m, rfl⟩ : ∃ m : Nat, a = (m : Int) := ⟨a.toNat, by omega⟩
   obtain ⟨nd, hnd⟩ : ∃ nd, s.nodes[m]? = some nd := ⟨_, List.getElem?_eq_getElem (show m < s.nodes.length by omega)⟩
   have hnd' : s.nodes[((m : Int)).toNat]? = some nd := by rw [Int.toNat_natCast]; exact hnd
   cases hk : isComp nd.kind with
   | true =>
     rw [decM_zero hnd' hk]
     exact dvalc0_told s.nodes r B m nd hnd (by unfold isComp at hk; simp at hk; omega) p hp e
   | false =>
     rw [decM_leaf hnd' hk]
     exact dleaf_told s.nodes r B hB m nd hnd (right_nodes hr nd (List.mem_of_getElem? hnd)) hk _ p hp e
 | succ d ih =>
   intro hd a ha ha' p e hp
   obtain ⟨m, rfl⟩ : ∃ m : Nat, a = (m : Int) := ⟨a.toNat, by omega⟩
   obtain ⟨nd, hnd⟩ : ∃ nd, s.nodes[m]? = some nd := ⟨_, List.getElem?_eq_getElem (show m < s.nodes.length by omega)⟩
   have hnd' : s.nodes[((m : Int)).toNat]? = some nd := by rw [Int.toNat_natCast]; exact hnd
   have hmem := List.mem_of_getElem? hnd
   have hN := right_nodes hr nd hmem
   cases hk : isComp nd.kind with
   | false =>
     rw [decM_leaf hnd' hk]
     exact dleaf_told s.nodes r B hB m nd hnd hN hk _ p hp e
   | true =>
   rw [decM_succ hnd' hk]
   have hkk : nd.kind = 9 ∨ nd.kind = 11 ∨ nd.kind = 12 ∨ nd.kind = 13 := by unfold isComp at hk; simp at hk; omega
   have hkid := ordered_kids (right_ordered hr) nd hmem
   have hdep : 20 - (d + 1) < 20 := by omega
   have hdep1 : 20 - (d + 1) + 1 = 20 - d := by omega
   obtain ⟨val, hval⟩ := val_of (ih (by omega))
   rw [← hdep1] at hval
   have hfair := fair_dec s.nodes d
   unfold nodeM at hN
   simp only [Bool.and_eq_true, decide_eq_true_eq] at hN
   have hS := hN.2.2
   unfold rcomp
   by_cases h9 : nd.kind = 9
   · rw [if_pos h9] at hS ⊢
     unfold fieldsM at hS
     simp only [Bool.and_eq_true, decide_eq_true_eq] at hS
     have hkf : ∀ t ∈ nd.fields, 0 ≤ t.type ∧ t.type < (s.nodes.length : Int) := fun t ht => hkid t.type (by unfold kidsN; rw [if_pos h9]; exact List.mem_map_of_mem ht)
     have hG := got_map (fair_fields hfair nd.fields []) (fun xs => VT.mk nd.kind 0 0 [] xs []) (fldS_got hfair nd.fields (fun t ht => (hval t.type (hkf t ht).1 (hkf t ht).2).1) [] p e hp)
     have hT := dcomp9_told s.nodes r B hB nd h9 (by omega) (20 - (d + 1) + 1) val (fun t ht => (hval t.type (hkf t ht).1 (hkf t ht).2).2) (fun t ht p e hp => ((hval t.type (hkf t ht).1 (hkf t ht).2).1 p e hp).le) p hp e _ rfl
     exact ⟨_, _, _, hG, dvalc_told s.nodes r B m nd hnd hkk _ hdep p _ e _ _ hT⟩
   rw [if_neg h9]
   by_cases h13 : nd.kind = 13
   · rw [if_pos h13]
     have hbk : ∀ b ∈ nd.branches, 0 ≤ b ∧ b < (s.nodes.length : Int) := fun b hb => hkid b (by unfold kidsN; rw [if_neg h9, if_neg (by omega), if_pos h13]; exact hb)
     rw [h13, if_neg (by decide), if_neg (by decide), if_neg (by decide), if_pos rfl] at hS
     unfold unionM at hS
     simp only [Bool.and_eq_true, decide_eq_true_eq] at hS
     have hT := dcomp13_told s.nodes r B hB nd h13 (by omega) (20 - (d + 1) + 1) val (fun b hb => (hval b (hbk b hb).1 (hbk b hb).2).2) p hp e _ rfl _ rfl
     have hP := plcS_got fair_long nd.branches.length hp e
     have hin := plcS_in (f := rlong) (B := B) (many := nd.branches.length) (p := p) (e := e)
     generalize plcS rlong B nd.branches.length p e = P at hT hP hin
     by_cases h0 : P.2.2 = 0
     · rw [if_pos h0] at hT
       obtain ⟨n1, n2⟩ := hin h0
       have hlt : P.1.toNat < nd.branches.length := by omega
       have hba : nd.branches[P.1.toNat]? = some (branchAt nd P.1) := by rw [branchAt, List.getElem?_eq_getElem hlt]
       have hb := hbk _ (List.mem_of_getElem? hba)
       have hX := (hval _ hb.1 hb.2).1 P.2.1 0 hP.le
       have he : e = 0 := Decidable.not_not.1 fun h => h ((hP.no h).symm.trans h0)
       subst he
       have hPi := hP.is (fair_place fair_long _)
       have hXi := hX.is (hfair _)
       refine ⟨_, _, _, ?_, dvalc_told s.nodes r B m nd hnd hkk _ hdep p _ 0 _ _ hT⟩
       refine got_of hX.le (fun h1 => ?_) fun h1 => ?_
       · rw [rbind_ok (hPi.1 h0), rbind_ok (hXi.1 h1)]; rfl
       · rw [rbind_ok (hPi.1 h0), rbind_bad (hXi.2 h1)]
     · rw [if_neg h0] at hT
       refine ⟨_, _, _, ?_, dvalc_told s.nodes r B m nd hnd hkk _ hdep p _ e _ _ hT⟩
       by_cases he : e = 0
       · subst he
         have hPi := hP.is (fair_place fair_long _)
         exact got_of hP.le (fun h1 => absurd h1 h0) fun h1 => by rw [rbind_bad (hPi.2 h0)]
       · exact ⟨hP.le, hP.no, fun x h1 => absurd h1 he, fun w q' h1 => absurd h1 he⟩
   · rw [if_neg h13]
     have hk2 : nd.kind = 11 ∨ nd.kind = 12 := by omega
     have hb := hkid nd.items (by unfold kidsN; rw [if_neg h9, if_pos hk2]; simp)
     obtain ⟨xs, ks, q, e', hG, hI⟩ := ditems_any s.nodes r B hB nd (20 - (d + 1) + 1) (hfair nd.items) (val nd.items) (hval _ hb.1 hb.2).1 (hval _ hb.1 hb.2).2 p hp e
     have hT := dcomp11_told s.nodes r B nd hk2 (20 - (d + 1) + 1) p q e e' xs ks hI
     exact ⟨_, _, _, got_map (fair_blks (fair_item _ (hfair _)) _ _ _) (fun q => VT.mk nd.kind 0 0 [] q.1 q.2) hG, dvalc_told s.nodes r B m nd hnd hkk _ hdep p _ e _ _ hT⟩
end
end Go.Proofs.YtepneflbhpidbaaGreatDoor
