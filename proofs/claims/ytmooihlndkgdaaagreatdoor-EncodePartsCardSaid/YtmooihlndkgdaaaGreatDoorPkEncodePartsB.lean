/- Texts that lead to the law EncodeParts, joined. -/
import Derived.Test.YtmooihlndkgdaaaGreatDoorPkEncodePartsA
import Derived.Test.YtmooihlndkgdaaaGreatDoorPkEncodePartsXTy
namespace Go.Proofs.YtmooihlndkgdaaaGreatDoor
open Go.RowKit
set_option linter.unusedVariables false
set_option linter.unusedSimpArgs false
section
attribute [local go_sem] opx opE ev okx gcond bnd okO AV.get AV.okb cAV upd_at putd_some putd_none wrs_nil wrs_cons look_nil look_cons st argT_at bpick_and bpick_or bpick_true bpick_false binV binI binS binVOk binOk isShift binSOk unV unVOk loadV loadP cellsA zeroA Blkd.len setE grown moreA moreR moreOk eqRes pv fillA fillE putSeg AV.cellish AV.pureL AV.pureB lentL_is ex_some AV.ren AV.renL renL_c Blkd.ren rho wrM renN lentOk rhoE keepM endOk tyA_2 tyA_3 tyA_4 tyA_5 tyA_6 tyA_7 tyA_8 tyA_9 tyA_10 tyA_11 tyA_12 tyA_13 tyA_14 tyA_15 tyA_16 tyA_17 tyA_18 tyA_19 tyA_21 tyA_22 tyA_23 tyA_24 tyA_29 tyA_30 tyA_31 tyA_32 tyA_33 tyA_34 tyA_35 tyA_36 tyA_37 tyA_38 tyA_39 tyA_40 tyA_41 tyA_42 tyA_43 tyA_51 tyA_73 tyA_77 tyA_99 tyA_100 tyA_101 tyA_114 tyA_120 tyA_121 tyA_122 tyA_131 tyA_132 tyA_133 tyA_134 tyA_135 tyA_138 tyA_139 tyA_140 tyA_149 tyA_163 tyA_168 tyA_210 tyA_212 tyA_219 tyA_227 tyA_231 tyA_233 tyA_237 tyA_238 tyA_239 tyA_240 tyA_241 tyA_243 tyA_244 tyA_246 tyA_247 tyA_248 tyA_251 Option.map_some Option.map_none Option.getD_some Option.getD_none Option.bind_some Option.bind_none List.getElem?_cons_zero List.getElem?_cons_succ List.getElem?_nil List.getElem?_toArray List.length_cons List.length_nil List.length_map List.forall_mem_map List.map_cons List.map_nil List.drop_zero List.drop_succ_cons List.drop_nil List.take_zero List.take_succ_cons List.take_nil List.mem_cons List.not_mem_nil or_false forall_eq_or_imp forall_eq List.set_cons_zero List.set_cons_succ List.cons_append List.nil_append List.append_nil List.foldl_cons List.foldl_nil List.replicate_succ List.replicate_zero List.all_cons List.all_nil if_true if_false Bool.false_eq_true ne_eq not_false_eq_true not_true_eq_false true_and and_true and_self true_implies imp_self implies_true forall_const beq_self_eq_true Bool.and_true Bool.true_and Bool.and_false Bool.false_and Bool.or_true Bool.true_or Bool.or_false Bool.false_or Bool.not_true Bool.not_false Bool.not_eq_eq_eq_not intKindOf Value.oneCell' Int.toNat_natCast beq_true beq_false Bool.not_eq_true false_implies false_or true_or or_true Nat.zero_add Nat.add_zero decide_true decide_false Int.cast_ofNat_Int Int.toNat_zero Int.toNat_one eq_self

mutual
def vbulk (d : Nat) : VT → Nat
  | .mk k n w s xs ks => if 80 < d ∨ 2500 < s.length ∨ 2500 < xs.length ∨ 2500 < ks.length then 2501 else match bkeys5 (1 + s.length) ks with | none => 2501 | some n => vitems d n xs
def vitems (d : Nat) : Nat → List VT → Nat
  | n, [] => n
  | n, x :: xs => if n ≤ 2500 then vitems d (n + vbulk (d + 1) x) xs else n
end
mutual
theorem vbulk_le (d : Nat) : ∀ (t : VT), vbulk d t ≤ 5001 + 2501 * (81 - d)
  | .mk k n w s xs ks => by
    rw [vbulk]
    split
    · omega
    · rename_i h
      split
      · omega
      · rename_i m hm
        exact vitems_le d xs m (by have := bkeys5_le ks _ _ (by omega) hm; omega)
theorem vitems_le (d : Nat) : ∀ (xs : List VT) (n : Nat), n ≤ 5001 + 2501 * (81 - d) → vitems d n xs ≤ 5001 + 2501 * (81 - d)
  | [], n, h => by rw [vitems]; exact h
  | x :: xs, n, h => by
    rw [vitems]
    split
    · have := vbulk_le (d + 1) x
      by_cases hd : 80 < d
      · have h2 : vbulk (d + 1) x = 2501 := by
          cases x
          rw [vbulk, if_pos (by omega)]
        exact vitems_le d xs _ (by omega)
      · exact vitems_le d xs _ (by omega)
    · exact h
end
theorem vitems_ge (d : Nat) : ∀ (xs : List VT) (n : Nat), n ≤ vitems d n xs
  | [], n => by rw [vitems]; exact Nat.le_refl _
  | x :: xs, n => by
    rw [vitems]
    split
    · exact Nat.le_trans (Nat.le_add_right _ _) (vitems_ge d xs _)
    · exact Nat.le_refl _
mutual
theorem vbulk_deep (d : Nat) : ∀ (t : VT), vbulk d t ≤ 2500 → vdeep t + d ≤ 81
  | .mk k n w s xs ks => fun h => by
    rw [vbulk] at h
    split at h
    · omega
    · rename_i hd
      split at h
      · omega
      · rw [vdeep]
        split
        · exact vitems_deep d xs _ 1 (by omega) h
        · omega
theorem vitems_deep (d : Nat) : ∀ (xs : List VT) (n m : Nat), m + d ≤ 81 → vitems d n xs ≤ 2500 → vdeeps m xs + d ≤ 81
  | [], n, m, hm, h => by rw [vdeeps]; exact hm
  | x :: xs, n, m, hm, h => by
    rw [vitems] at h
    split at h
    · have h1 := vitems_ge d xs (n + vbulk (d + 1) x)
      have h2 := vbulk_deep (d + 1) x (by omega)
      rw [vdeeps]
      exact vitems_deep d xs _ _ (by omega) h
    · omega
end
theorem vitems_step {d : Nat} {xs : List VT} {i n : Nat} {x : VT} (hx : xs[i]? = some x) (hn : n ≤ 2500) : vitems d n (xs.drop i) = vitems d (n + vbulk (d + 1) x) (xs.drop (i + 1)) := by
  obtain ⟨hlt, rfl⟩ := List.getElem?_eq_some_iff.1 hx
  rw [List.drop_eq_getElem_cons hlt, vitems, if_pos hn]
theorem vitems_end {d : Nat} {xs : List VT} {i n : Nat} (h : ¬ (i < xs.length ∧ n ≤ 2500)) : vitems d n (xs.drop i) = n := by
  by_cases hlt : i < xs.length
  · rw [List.drop_eq_getElem_cons hlt, vitems, if_neg (by omega)]
  · rw [List.drop_of_length_le (by omega), vitems]
set_option maxRecDepth 100000 in
set_option maxHeartbeats 800000 in
theorem vbulk_told : ∀ (m : Nat) (t : VT), SizeOf.sizeOf t ≤ m → ∀ (d : Nat) (z : Int), d ≤ 81 → z = (d : Int) → Told Tryz.prog 51 [t.av, .c (.v (.int .i64 2500)), .c (.v (.int .i64 z))] (.c (.v (.int .i64 (vbulk d t)))) := by
  intro m
  induction m with
  | zero => intro t ht; cases t; simp at ht
  | succ m ih =>
  intro t ht d z hd hz
  cases t with
  | mk k n w s xs ks =>
  have hbl := vbulk_le d (.mk k n w s xs ks)
  have hbi := vitems_le d xs
  refine VC.told ent_51 Tryz.func51 rfl Tryz.ntmps51 (by simp) (by first | rfl | simp [AV.pureB, AV.pureL, pureL_c, pures]) (by first | rfl | simp [AV.pureB, AV.pureL, pureL_c, pures]) fun hb => ?_
  simp only [VT.av, vcells_mk, List.map_cons, List.map_nil, abd_agg, abd_c, pbd_v, pbd_sl, List.mem_cons, List.not_mem_nil, or_false, forall_eq_or_imp, forall_eq, true_and, List.length_map] at hb ⊢
  clear hb
  have hw21 : IntKind.i64.wrap (2500 + 1) = 2501 := by rfl
  rw [vbulk] at hbl ⊢
  refine walkGF (@bytePV_len) ?_
  refine VC.cond (by rfl) (by trivial) (fun hc => ?_) (fun hc => ?_)
  · have hcc : 80 < d ∨ 2500 < s.length ∨ 2500 < xs.length ∨ 2500 < ks.length := by
      simp at hc
      omega
    rw [if_pos hcc]
    refine walkGF (hw21) ?_
    refine ⟨.inr rfl, ?_⟩
    rw [Tryz.results51]
    simp only [resOk, resV, go_sem, Int.reduceBEq, Int.reduceLE, Int.reduceLT, Int.reduceNeg, Nat.reduceAdd, Nat.reduceEqDiff, Nat.reduceLT, Nat.reduceLeDiff, Nat.reduceMul, Nat.reduceSub, reduceCtorEq, ↓reduceIte]
    exact .c _
  · have hcc : ¬ (80 < d ∨ 2500 < s.length ∨ 2500 < xs.length ∨ 2500 < ks.length) := by
      simp at hc
      omega
    rw [if_neg hcc] at hbl ⊢
    clear hc
    obtain ⟨V, hV⟩ : ∃ V, V = bkeys5 (1 + s.length) ks := ⟨_, rfl⟩
    rw [← hV] at hbl ⊢
    have hw1 : IntKind.i64.wrap (1 + (s.length : Int)) = 1 + (s.length : Int) := wrap64_id (by omega) (by omega)
    refine walkGF (And.intro @vcells_mk (And.intro @bytePV_len hw1)) ?_
    refine VC.loop (ι := {p : Nat × Nat // p.1 ≤ ks.length ∧ p.2 ≤ 5001 ∧ bkeys5 p.2 (ks.drop p.1) = V}) (fun p => [(1, .c (.v (.int .i64 2500))), (2, .c (.v (.int .i64 z))), (3, .ref 0 1 0 0), (7, .c (.v (.int .i64 p.1.2))), (8, .c (.v (.int .i64 p.1.1)))])
      (fun _ => [(0, ⟨false, 43, 6, [(VT.mk k n w s xs ks).cells.map .c]⟩)]) 8 (fun p => ks.length - p.1.1) ⟨(0, 1 + s.length), Nat.zero_le _, by simp only []; omega, by simpa using hV.symm⟩ ?_ ?_
    · simp only [vcells_mk, Weak, eq_self, used_is, sc_any, sc_c, sc_pp, sc_ref, sc_row, sc_agg, sc_fn, ScL, some_imp, List.forall_mem_map, go_sem, Int.reduceBEq, Int.reduceLE, Int.reduceLT, Int.reduceNeg, Nat.reduceAdd, Nat.reduceEqDiff, Nat.reduceLT, Nat.reduceLeDiff, Nat.reduceMul, Nat.reduceSub, reduceCtorEq, ↓reduceIte]
      all_goals first | rfl | exact cI (by omega)
    rintro ⟨⟨i, b⟩, hi, hb, hbk⟩
    simp only [] at hi hb hbk ⊢
    refine walkGF (@vcells_mk) ?_
    refine VC.cond (by rfl) (by trivial) (fun hc => ?_) (fun hc => ?_)
    · have hcc : i < ks.length ∧ b ≤ 2500 := by
        simp at hc
        omega
      clear hc
      obtain ⟨y, hy⟩ : ∃ y, ks[i]? = some y := ⟨ks[i], List.getElem?_eq_getElem hcc.1⟩
      (repeat (first | refine pass ?_ | refine VC.region (by rfl) (by rfl) ?_ | (refine AO.step fun K hK => ?_; simp only [vcells_mk, List.getElem?_map, hy, sPV, str_size, go_sem, Int.reduceBEq, Int.reduceLE, Int.reduceLT, Int.reduceNeg, Nat.reduceAdd, Nat.reduceEqDiff, Nat.reduceLT, Nat.reduceLeDiff, Nat.reduceMul, Nat.reduceSub, reduceCtorEq, ↓reduceIte]; (first | refine gsel_skip ?_ | refine gsel_go ?_ | skip); (first | refine hK _ _ _ ?_ | refine ⟨by first | omega | exact ⟨_, rfl, rfl⟩ | exact fun _ => ⟨_, rfl, rfl⟩ | (intro h; simp only [vcells_mk, List.getElem?_map, hy, sPV, str_size, h, true_and]; omega) | (clear hK; intro h; simp_all <;> omega), hK _ _ _ ?_⟩); clear hK K) | refine VC.draw mixP (by rfl) (by rfl) ?_ | refine ⟨okd_of (by kernel_rfl), ?_⟩ | refine BQ.other (by decide) ?_ | refine VC.seq ?_ | refine AO.nil ?_ | refine VC.block ?_))
      refine VC.cond (by rfl) (by trivial) (fun hc => ?_) (fun hc => ?_)
      · have hl : 2500 < y.length := by
          simp at hc
          omega
        obtain rfl : V = none := hbk.symm.trans (bkeys5_none hy hcc.2 hl)
        refine walkGF (hw21) ?_
        refine ⟨.inr rfl, ?_⟩
        rw [Tryz.results51]
        simp only [resOk, resV, go_sem, Int.reduceBEq, Int.reduceLE, Int.reduceLT, Int.reduceNeg, Nat.reduceAdd, Nat.reduceEqDiff, Nat.reduceLT, Nat.reduceLeDiff, Nat.reduceMul, Nat.reduceSub, reduceCtorEq, ↓reduceIte]
        exact .c _
      · have hl : y.length ≤ 2500 := by
          simp at hc
          omega
        have hw2 : IntKind.i64.wrap ((b : Int) + 1) = (b : Int) + 1 := wrap64_id (by omega) (by omega)
        have hw3 : IntKind.i64.wrap ((b : Int) + 1 + (y.length : Int)) = (b : Int) + 1 + (y.length : Int) := wrap64_id (by omega) (by omega)
        have hw4 : IntKind.i64.wrap ((i : Int) + 1) = (i : Int) + 1 := wrap64_id (by omega) (by omega)
        (repeat (first | refine pass ?_ | refine VC.region (by rfl) (by rfl) ?_ | (refine AO.step fun K hK => ?_; simp only [vcells_mk, List.getElem?_map, hy, sPV, str_size, hw2, hw3, hw4, go_sem, Int.reduceBEq, Int.reduceLE, Int.reduceLT, Int.reduceNeg, Nat.reduceAdd, Nat.reduceEqDiff, Nat.reduceLT, Nat.reduceLeDiff, Nat.reduceMul, Nat.reduceSub, reduceCtorEq, ↓reduceIte]; (first | refine gsel_skip ?_ | refine gsel_go ?_ | skip); (first | refine hK _ _ _ ?_ | refine ⟨by first | omega | exact ⟨_, rfl, rfl⟩ | exact fun _ => ⟨_, rfl, rfl⟩ | (intro h; simp only [vcells_mk, List.getElem?_map, hy, sPV, str_size, hw2, hw3, hw4, h, true_and]; omega) | (clear hK; intro h; simp_all <;> omega), hK _ _ _ ?_⟩); clear hK K) | refine VC.draw mixP (by rfl) (by rfl) ?_ | refine ⟨okd_of (by kernel_rfl), ?_⟩ | refine BQ.other (by decide) ?_ | refine VC.seq ?_ | refine AO.nil ?_ | refine VC.block ?_))
        refine .next ⟨(i + 1, b + 1 + y.length), by simp only []; omega, by simp only []; omega, by simp only []; rw [← hbk, bkeys5_step hy hcc.2 hl]⟩ ?_ (by simp only []; omega)
        simp only [vcells_mk, Weak, eq_self, used_is, sc_any, sc_c, sc_pp, sc_ref, sc_row, sc_agg, sc_fn, ScL, some_imp, List.forall_mem_map, go_sem, Int.reduceBEq, Int.reduceLE, Int.reduceLT, Int.reduceNeg, Nat.reduceAdd, Nat.reduceEqDiff, Nat.reduceLT, Nat.reduceLeDiff, Nat.reduceMul, Nat.reduceSub, reduceCtorEq, ↓reduceIte]
        exact ⟨cI (by omega), cI (by omega)⟩
    · have hcc : ¬ (i < ks.length ∧ b ≤ 2500) := by
        simp at hc
        omega
      clear hc
      obtain rfl : V = some b := hbk.symm.trans (bkeys5_end hcc)
      simp only [] at hbl ⊢
      obtain ⟨V, hV2⟩ : ∃ V, V = vitems d b xs := ⟨_, rfl⟩
      rw [← hV2] at hbl ⊢
      refine walkG ?_
      refine VC.loop (ι := {p : Nat × Nat // p.1 ≤ xs.length ∧ p.2 ≤ 5001 + 2501 * (81 - d) ∧ vitems d p.2 (xs.drop p.1) = V}) (fun p => [(1, .c (.v (.int .i64 2500))), (2, .c (.v (.int .i64 z))), (3, .ref 0 1 0 0), (7, .c (.v (.int .i64 p.1.2))), (9, .c (.v (.int .i64 p.1.1)))])
        (fun _ => [(0, ⟨false, 43, 6, [(VT.mk k n w s xs ks).cells.map .c]⟩)]) 8 (fun p => xs.length - p.1.1) ⟨(0, b), Nat.zero_le _, by simp only []; omega, by simpa using hV2.symm⟩ ?_ ?_
      · simp only [vcells_mk, Weak, eq_self, used_is, sc_any, sc_c, sc_pp, sc_ref, sc_row, sc_agg, sc_fn, ScL, some_imp, List.forall_mem_map, go_sem, Int.reduceBEq, Int.reduceLE, Int.reduceLT, Int.reduceNeg, Nat.reduceAdd, Nat.reduceEqDiff, Nat.reduceLT, Nat.reduceLeDiff, Nat.reduceMul, Nat.reduceSub, reduceCtorEq, ↓reduceIte]
        all_goals rfl
      clear hi hcc hbk
      rintro ⟨⟨i, c⟩, hi, hcb, hbt⟩
      simp only [] at hi hcb hbt ⊢
      refine walkGF (@vcells_mk) ?_
      refine VC.cond (by rfl) (by trivial) (fun hc => ?_) (fun hc => ?_)
      · have hcc : i < xs.length ∧ c ≤ 2500 := by
          simp at hc
          omega
        clear hc
        obtain ⟨x, hx⟩ : ∃ x, xs[i]? = some x := ⟨xs[i], List.getElem?_eq_getElem hcc.1⟩
        have hxm := List.mem_of_getElem? hx
        have hsz : SizeOf.sizeOf x ≤ m := by
          have h1 := List.sizeOf_lt_of_mem hxm
          simp at ht
          omega
        have hcall := ih x hsz (d + 1) (z + 1) (by omega) (by omega)
        have hxb := vbulk_le (d + 1) x
        have hw1 : IntKind.i64.wrap (z + 1) = z + 1 := wrap64_id (by omega) (by omega)
        have hw2 : IntKind.i64.wrap ((c : Int) + (vbulk (d + 1) x : Int)) = (c : Int) + (vbulk (d + 1) x : Int) := wrap64_id (by omega) (by omega)
        have hw4 : IntKind.i64.wrap ((i : Int) + 1) = (i : Int) + 1 := wrap64_id (by omega) (by omega)
        (repeat (first | refine pass ?_ | refine VC.region (by rfl) (by rfl) ?_ | (refine AO.step fun K hK => ?_; simp only [vcells_mk, List.getElem?_map, hx, len_vcells, take_vcells, take_vcellsC, hw1, go_sem, Int.reduceBEq, Int.reduceLE, Int.reduceLT, Int.reduceNeg, Nat.reduceAdd, Nat.reduceEqDiff, Nat.reduceLT, Nat.reduceLeDiff, Nat.reduceMul, Nat.reduceSub, reduceCtorEq, ↓reduceIte]; (first | refine gsel_skip ?_ | refine gsel_go ?_ | skip); (first | refine hK _ _ _ ?_ | refine ⟨by first | omega | exact ⟨_, rfl, rfl⟩ | exact fun _ => ⟨_, rfl, rfl⟩ | (intro h; simp only [vcells_mk, List.getElem?_map, hx, len_vcells, take_vcells, take_vcellsC, hw1, h, true_and]; omega) | (clear hK; intro h; simp_all <;> omega), hK _ _ _ ?_⟩); clear hK K) | refine VC.draw mixP (by rfl) (by rfl) ?_ | refine ⟨okd_of (by kernel_rfl), ?_⟩ | refine BQ.other (by decide) ?_ | refine VC.seq ?_ | refine AO.nil ?_ | refine VC.block ?_))
        (refine AO.step fun K hK => ?_; simp only [go_sem, Int.reduceBEq, Int.reduceLE, Int.reduceLT, Int.reduceNeg, Nat.reduceAdd, Nat.reduceEqDiff, Nat.reduceLT, Nat.reduceLeDiff, Nat.reduceMul, Nat.reduceSub, reduceCtorEq, ↓reduceIte, pureL_c]; (first | refine gsel_go ?_ | skip))
        refine .inl ⟨_, hcall, hK _ _ _ ?_⟩
        clear hK K
        refine walkGF (And.intro hw2 hw4) ?_
        refine .next ⟨(i + 1, c + vbulk (d + 1) x), by simp only []; omega, by simp only []; omega, by simp only []; rw [← hbt, vitems_step hx hcc.2]⟩ ?_ (by simp only []; omega)
        simp only [vcells_mk, Weak, eq_self, used_is, sc_any, sc_c, sc_pp, sc_ref, sc_row, sc_agg, sc_fn, ScL, some_imp, List.forall_mem_map, go_sem, Int.reduceBEq, Int.reduceLE, Int.reduceLT, Int.reduceNeg, Nat.reduceAdd, Nat.reduceEqDiff, Nat.reduceLT, Nat.reduceLeDiff, Nat.reduceMul, Nat.reduceSub, reduceCtorEq, ↓reduceIte]
        exact ⟨cI (by omega), cI (by omega)⟩
      · have hcc : ¬ (i < xs.length ∧ c ≤ 2500) := by
          simp at hc
          omega
        obtain rfl : V = c := hbt.symm.trans (vitems_end hcc)
        refine walkG ?_
        refine ⟨.inr rfl, ?_⟩
        rw [Tryz.results51]
        simp only [resOk, resV, go_sem, Int.reduceBEq, Int.reduceLE, Int.reduceLT, Int.reduceNeg, Nat.reduceAdd, Nat.reduceEqDiff, Nat.reduceLT, Nat.reduceLeDiff, Nat.reduceMul, Nat.reduceSub, reduceCtorEq, ↓reduceIte]
        exact .c _
mutual
theorem vbulk_sm (d : Nat) : ∀ v : VT, v.inr → vbulk d v ≤ 2500 → v.sm 2500
  | .mk k n w s xs ks => fun hr h => by
    rw [vbulk] at h
    split at h
    · omega
    · rename_i h1
      split at h
      · omega
      · rename_i m hm
        have h2 := vitems_ge d xs m
        obtain ⟨_, h3⟩ := bkeys5_len ks _ m hm (by omega)
        exact ⟨hr.1, by omega, by omega, h3, by omega, vitems_sm d m xs hr.2 h⟩
theorem vitems_sm (d n : Nat) : ∀ xs : List VT, VT.inrL xs → vitems d n xs ≤ 2500 → VT.smL 2500 xs
  | [] => fun _ _ => trivial
  | x :: xs => fun hr h => by
    rw [vitems] at h
    split at h
    · have := vitems_ge d xs (n + vbulk (d + 1) x)
      exact ⟨vbulk_sm (d + 1) x hr.1 (by omega), vitems_sm d _ xs hr.2 h⟩
    · omega
end
set_option maxRecDepth 100000 in
set_option maxHeartbeats 400000 in
theorem vgreat_told (v : VT) : Told Tryz.prog 17 [v.av] (.c (.v (.bool (decide (2500 < vbulk 0 v))))) := by
  have hK := vbulk_told _ v (Nat.le_refl _) 0 0 (by omega) rfl
  have hBk := hK
  clear hK
  have e : decide (2500 < vbulk 0 v) = decide ((vbulk 0 v : Int) > 2500) := decide_eq_decide.2 (by omega)
  rw [e]
  rw [VT.av_eq] at hBk ⊢
  refine VC.told ent_17 Tryz.func17 rfl Tryz.ntmps17 (by simp) (by first | rfl | simp [AV.pureB, AV.pureL, pureL_c, pures]) (by first | rfl | simp [AV.pureB, AV.pureL, pureL_c, pures]) fun hb => ?_
  clear hb
  refine walkGF (And.intro @len_vcells (And.intro @take_vcells @take_vcellsC)) ?_
  refine walkCF (@pureL_c) (hBk) ?_
  refine walkG ?_
  refine ⟨by first | exact .inr rfl | exact .inl rfl, ?_⟩; rw [Tryz.results17]; simp only [resOk, resV, go_sem, Int.reduceBEq, Int.reduceLE, Int.reduceLT, Int.reduceNeg, Nat.reduceAdd, Nat.reduceEqDiff, Nat.reduceLT, Nat.reduceLeDiff, Nat.reduceMul, Nat.reduceSub, reduceCtorEq, ↓reduceIte]
  exact .c _
end

theorem ty_bytes {ps : List PV} (h : TyPV Tryz.prog 40 ps) : ∃ l : List UInt8, ps = [.sl 1 (bytePV l)] := by
  obtain ⟨es, rfl, hx⟩ := ty_sl h Tryz.underlying40
  rw [cells_of tyA_5]
  obtain ⟨l, rfl⟩ := list_map (f := fun b : UInt8 => [PV.v (.int .u8 (b.toNat : Int))]) fun q hq => by
    obtain ⟨n, rfl, hw⟩ := ty_int (hx q hq) Tryz.underlying5
    simp [Lit.wf, IntKind.min, IntKind.max, IntKind.signed, IntKind.bits] at hw
    refine ⟨n.toNat.toUInt8, ?_⟩
    have : ((n.toNat.toUInt8).toNat : Int) = n := by simp; omega
    rw [this]
  exact ⟨l, rfl⟩
theorem split6 {α : Type} {l : List α} (h : l.length = 6) : ∃ a b c d e f, l = [a, b, c, d, e, f] := by
  match l, h with
  | [a, b, c, d, e, f], _ => exact ⟨a, b, c, d, e, f, rfl⟩
theorem arg_place {x : AV} (h : TyAV Tryz.prog 3 x) : ∃ n : Int, (-9223372036854775808 ≤ n ∧ n ≤ 9223372036854775807) ∧ x = .c (.v (.int .i64 n)) := by
  obtain ⟨ps, h1, h2⟩ := h
  obtain ⟨n, rfl, hn⟩ := ty_int h1 Tryz.underlying3
  rcases h2 with ⟨⟨fs, h2⟩, _⟩ | ⟨_, q, h2, rfl⟩
  · simp [Tryz.underlying3] at h2
  · simp at h2
    subst h2
    exact ⟨n, wf64 hn, rfl⟩
section
attribute [local go_sem] opx opE ev okx gcond bnd okO AV.get AV.okb cAV upd_at putd_some putd_none wrs_nil wrs_cons look_nil look_cons st argT_at bpick_and bpick_or bpick_true bpick_false binV binI binS binVOk binOk isShift binSOk unV unVOk loadV loadP cellsA zeroA Blkd.len setE grown moreA moreR moreOk eqRes pv fillA fillE putSeg AV.cellish AV.pureL AV.pureB lentL_is ex_some AV.ren AV.renL renL_c Blkd.ren rho wrM renN lentOk rhoE keepM endOk tyA_2 tyA_3 tyA_4 tyA_5 tyA_6 tyA_7 tyA_8 tyA_9 tyA_10 tyA_11 tyA_12 tyA_13 tyA_14 tyA_15 tyA_16 tyA_17 tyA_18 tyA_19 tyA_21 tyA_22 tyA_23 tyA_24 tyA_29 tyA_30 tyA_31 tyA_32 tyA_33 tyA_34 tyA_35 tyA_36 tyA_37 tyA_38 tyA_39 tyA_40 tyA_41 tyA_42 tyA_43 tyA_51 tyA_73 tyA_77 tyA_99 tyA_100 tyA_101 tyA_114 tyA_120 tyA_121 tyA_122 tyA_131 tyA_132 tyA_133 tyA_134 tyA_135 tyA_138 tyA_139 tyA_140 tyA_149 tyA_163 tyA_168 tyA_210 tyA_212 tyA_219 tyA_227 tyA_231 tyA_233 tyA_237 tyA_238 tyA_239 tyA_240 tyA_241 tyA_243 tyA_244 tyA_246 tyA_247 tyA_248 tyA_251 Option.map_some Option.map_none Option.getD_some Option.getD_none Option.bind_some Option.bind_none List.getElem?_cons_zero List.getElem?_cons_succ List.getElem?_nil List.getElem?_toArray List.length_cons List.length_nil List.length_map List.forall_mem_map List.map_cons List.map_nil List.drop_zero List.drop_succ_cons List.drop_nil List.take_zero List.take_succ_cons List.take_nil List.mem_cons List.not_mem_nil or_false forall_eq_or_imp forall_eq List.set_cons_zero List.set_cons_succ List.cons_append List.nil_append List.append_nil List.foldl_cons List.foldl_nil List.replicate_succ List.replicate_zero List.all_cons List.all_nil if_true if_false Bool.false_eq_true ne_eq not_false_eq_true not_true_eq_false true_and and_true and_self true_implies imp_self implies_true forall_const beq_self_eq_true Bool.and_true Bool.true_and Bool.and_false Bool.false_and Bool.or_true Bool.true_or Bool.or_false Bool.false_or Bool.not_true Bool.not_false Bool.not_eq_eq_eq_not intKindOf Value.oneCell' Int.toNat_natCast beq_true beq_false Bool.not_eq_true false_implies false_or true_or or_true Nat.zero_add Nat.add_zero decide_true decide_false Int.cast_ofNat_Int Int.toNat_zero Int.toNat_one eq_self

def bA (l : List UInt8) : List (List AV) := l.map fun b => [AV.c (.v (.int .u8 (b.toNat : Int)))]
theorem bA_len (l : List UInt8) : (bA l).length = l.length := by simp [bA]
theorem bA_app (l m : List UInt8) : bA l ++ bA m = bA (l ++ m) := by simp [bA]
theorem bA_one (l : List UInt8) (x : UInt8) : bA l ++ [[AV.c (.v (.int .u8 (x.toNat : Int)))]] = bA (l ++ [x]) := by simp [bA]
theorem bA_nil : bA [] = [] := rfl
theorem bA_cons (x : UInt8) (l : List UInt8) : bA (x :: l) = [AV.c (.v (.int .u8 (x.toNat : Int)))] :: bA l := rfl
theorem bA_pv (l : List UInt8) : bA l = (bytePV l).map fun e => e.map AV.c := by simp [bA, bytePV]
theorem bA_ren (ρ : Nat → Nat) (l : List UInt8) : (bA l).map (AV.renL ρ) = bA l := by
  induction l with
  | nil => rfl
  | cons x l ih => rw [bA_cons, List.map_cons, ih]; rfl
theorem bA_sc {used : Nat → Prop} {h : Nat → Option Blkd} (l : List UInt8) : (∀ e ∈ bA l, ∀ x ∈ e, Sc used h x) = True := eq_true fun e he x hx => by
  obtain ⟨b, _, rfl⟩ := List.mem_map.1 he
  simp at hx
  subst hx
  exact .c
def bB (l : List UInt8) : Blkd := ⟨true, 5, 1, bA l⟩

def zigN (n : Int) : Nat := if 0 ≤ n then (2 * n).toNat else (-2 * n - 1).toNat
theorem zig_bits (n : Int) (h1 : -9223372036854775808 ≤ n) (h2 : n ≤ 9223372036854775807) : IntKind.u64.wrap ((BitVec.ofInt 64 (IntKind.u64.wrap (IntKind.u64.wrap n * 2 ^ min 1 64)) ^^^ BitVec.ofInt 64 (IntKind.u64.wrap (n.fdiv (2 ^ min (Int.toNat 63) 64)))).toNat : Int) = (zigN n : Int) := by
  rw [show (2 : Int) ^ min 1 64 = 2 from rfl, show (2 : Int) ^ min (Int.toNat 63) 64 = 9223372036854775808 from rfl, IntKind.wrap_u64, IntKind.wrap_u64, IntKind.wrap_u64, IntKind.wrap_u64, Int.fdiv_eq_ediv_of_nonneg _ (by decide)]
  by_cases hn : 0 ≤ n
  · have e1 : n / 9223372036854775808 % 18446744073709551616 = 0 := by omega
    have e2 : n % 18446744073709551616 * 2 % 18446744073709551616 = ((2 * n).toNat : Int) := by omega
    rw [e1, e2, zigN, if_pos hn]
    simp
    omega
  · have e1 : n / 9223372036854775808 % 18446744073709551616 = 18446744073709551615 := by omega
    have e2 : n % 18446744073709551616 * 2 % 18446744073709551616 = ((2 * n + 18446744073709551616).toNat : Int) := by omega
    have e3 : BitVec.ofInt 64 18446744073709551615 = BitVec.allOnes 64 := by decide
    rw [e1, e2, e3, BitVec.xor_allOnes, BitVec.toNat_not, zigN, if_neg hn, BitVec.ofInt_natCast, BitVec.toNat_ofNat]
    omega
set_option maxRecDepth 100000 in
set_option maxHeartbeats 400000 in
theorem zig_told (n : Int) (h1 : -9223372036854775808 ≤ n) (h2 : n ≤ 9223372036854775807) : Told Tryz.prog 187 [.c (.v (.int .i64 n))] (.c (.v (.int .u64 (zigN n : Int)))) := by
  have hz := zig_bits n h1 h2
  refine VC.told ent_187 Tryz.func187 rfl Tryz.ntmps187 (by simp) (by first | rfl | simp [AV.pureB, AV.pureL, pureL_c, pures]) (by first | rfl | simp [AV.pureB, AV.pureL, pureL_c, pures]) fun hb => ?_
  clear hb
  refine walkG ?_
  refine ⟨by first | exact .inr rfl | exact .inl rfl, ?_⟩; rw [Tryz.results187]; simp only [resOk, resV, go_sem, Int.reduceBEq, Int.reduceLE, Int.reduceLT, Int.reduceNeg, Nat.reduceAdd, Nat.reduceEqDiff, Nat.reduceLT, Nat.reduceLeDiff, Nat.reduceMul, Nat.reduceSub, reduceCtorEq, ↓reduceIte]
  exact frz_c (congrArg (fun z => PV.v (.int .u64 z)) hz)
set_option maxRecDepth 100000 in
set_option maxHeartbeats 800000 in
theorem pbool_told (l : List UInt8) (n : Int) (hl : l.length ≤ 1000000000) : ToldM Tryz.prog 158 [.row 1000000 l.length, .c (.v (.int .i64 n))] [bB l] [some (bB (l ++ [if n = 0 then 0 else 1]))] (.row 1000000 (l ++ [if n = 0 then (0 : UInt8) else 1]).length) := by
  unfold bB
  by_cases hn : n = 0
  · rw [if_pos hn]
    have e1 : (n != 0) = false := by simp [hn]
    obtain ⟨q, hq⟩ : ∃ q, q = l ++ [(0 : UInt8)] := ⟨_, rfl⟩
    have hbo : bA l ++ [[AV.c (.v (.int .u8 0))]] = bA q := by rw [hq]; exact bA_one l 0
    have hle : l.length + 1 = q.length := by rw [hq]; simp
    rw [← hq]
    refine VC.toldM ent_158 [] Tryz.func158 rfl Tryz.ntmps158 (by simp) (by simp only [ bA_len, bA_sc, ScM, zOk, inL, eq_self, used_is, sc_any, sc_c, sc_pp, sc_ref, sc_row, sc_agg, sc_tup, sc_fn, ScL, some_imp, List.forall_mem_map, Nat.le_refl, go_sem, Int.reduceBEq, Int.reduceLE, Int.reduceLT, Int.reduceNeg, Nat.reduceAdd, Nat.reduceEqDiff, Nat.reduceLT, Nat.reduceLeDiff, Nat.reduceMul, Nat.reduceSub, reduceCtorEq, ↓reduceIte]) (by simp only [ bA_len, bA_sc, ScM, zOk, inL, eq_self, used_is, sc_any, sc_c, sc_pp, sc_ref, sc_row, sc_agg, sc_tup, sc_fn, ScL, some_imp, List.forall_mem_map, Nat.le_refl, go_sem, Int.reduceBEq, Int.reduceLE, Int.reduceLT, Int.reduceNeg, Nat.reduceAdd, Nat.reduceEqDiff, Nat.reduceLT, Nat.reduceLeDiff, Nat.reduceMul, Nat.reduceSub, reduceCtorEq, ↓reduceIte]) (by simp only [ bA_len, bA_sc, ScM, zOk, inL, eq_self, used_is, sc_any, sc_c, sc_pp, sc_ref, sc_row, sc_agg, sc_tup, sc_fn, ScL, some_imp, List.forall_mem_map, Nat.le_refl, go_sem, Int.reduceBEq, Int.reduceLE, Int.reduceLT, Int.reduceNeg, Nat.reduceAdd, Nat.reduceEqDiff, Nat.reduceLT, Nat.reduceLeDiff, Nat.reduceMul, Nat.reduceSub, reduceCtorEq, ↓reduceIte]) (by simp only [ bA_len, bA_sc, ScM, zOk, inL, eq_self, used_is, sc_any, sc_c, sc_pp, sc_ref, sc_row, sc_agg, sc_tup, sc_fn, ScL, some_imp, List.forall_mem_map, Nat.le_refl, go_sem, Int.reduceBEq, Int.reduceLE, Int.reduceLT, Int.reduceNeg, Nat.reduceAdd, Nat.reduceEqDiff, Nat.reduceLT, Nat.reduceLeDiff, Nat.reduceMul, Nat.reduceSub, reduceCtorEq, ↓reduceIte]) (by simp) fun hb hbL => ?_
    clear hb hbL
    refine walkBF (And.intro @bA_len (And.intro e1 (And.intro hbo hle))) ?_
    refine ⟨by first | exact .inr rfl | exact .inl rfl, ?_⟩; rw [Tryz.results158]; simp only [bA_ren, bA_len, resOk, resV, go_sem, Int.reduceBEq, Int.reduceLE, Int.reduceLT, Int.reduceNeg, Nat.reduceAdd, Nat.reduceEqDiff, Nat.reduceLT, Nat.reduceLeDiff, Nat.reduceMul, Nat.reduceSub, reduceCtorEq, ↓reduceIte]
    exact .keepW rfl
  · rw [if_neg hn]
    have e1 : (n != 0) = true := by simpa using hn
    obtain ⟨q, hq⟩ : ∃ q, q = l ++ [(1 : UInt8)] := ⟨_, rfl⟩
    have hbo : bA l ++ [[AV.c (.v (.int .u8 1))]] = bA q := by rw [hq]; exact bA_one l 1
    have hle : l.length + 1 = q.length := by rw [hq]; simp
    rw [← hq]
    refine VC.toldM ent_158 [] Tryz.func158 rfl Tryz.ntmps158 (by simp) (by simp only [ bA_len, bA_sc, ScM, zOk, inL, eq_self, used_is, sc_any, sc_c, sc_pp, sc_ref, sc_row, sc_agg, sc_tup, sc_fn, ScL, some_imp, List.forall_mem_map, Nat.le_refl, go_sem, Int.reduceBEq, Int.reduceLE, Int.reduceLT, Int.reduceNeg, Nat.reduceAdd, Nat.reduceEqDiff, Nat.reduceLT, Nat.reduceLeDiff, Nat.reduceMul, Nat.reduceSub, reduceCtorEq, ↓reduceIte]) (by simp only [ bA_len, bA_sc, ScM, zOk, inL, eq_self, used_is, sc_any, sc_c, sc_pp, sc_ref, sc_row, sc_agg, sc_tup, sc_fn, ScL, some_imp, List.forall_mem_map, Nat.le_refl, go_sem, Int.reduceBEq, Int.reduceLE, Int.reduceLT, Int.reduceNeg, Nat.reduceAdd, Nat.reduceEqDiff, Nat.reduceLT, Nat.reduceLeDiff, Nat.reduceMul, Nat.reduceSub, reduceCtorEq, ↓reduceIte]) (by simp only [ bA_len, bA_sc, ScM, zOk, inL, eq_self, used_is, sc_any, sc_c, sc_pp, sc_ref, sc_row, sc_agg, sc_tup, sc_fn, ScL, some_imp, List.forall_mem_map, Nat.le_refl, go_sem, Int.reduceBEq, Int.reduceLE, Int.reduceLT, Int.reduceNeg, Nat.reduceAdd, Nat.reduceEqDiff, Nat.reduceLT, Nat.reduceLeDiff, Nat.reduceMul, Nat.reduceSub, reduceCtorEq, ↓reduceIte]) (by simp only [ bA_len, bA_sc, ScM, zOk, inL, eq_self, used_is, sc_any, sc_c, sc_pp, sc_ref, sc_row, sc_agg, sc_tup, sc_fn, ScL, some_imp, List.forall_mem_map, Nat.le_refl, go_sem, Int.reduceBEq, Int.reduceLE, Int.reduceLT, Int.reduceNeg, Nat.reduceAdd, Nat.reduceEqDiff, Nat.reduceLT, Nat.reduceLeDiff, Nat.reduceMul, Nat.reduceSub, reduceCtorEq, ↓reduceIte]) (by simp) fun hb hbL => ?_
    clear hb hbL
    refine walkBF (And.intro @bA_len (And.intro e1 (And.intro hbo hle))) ?_
    refine ⟨by first | exact .inr rfl | exact .inl rfl, ?_⟩; rw [Tryz.results158]; simp only [bA_ren, bA_len, resOk, resV, go_sem, Int.reduceBEq, Int.reduceLE, Int.reduceLT, Int.reduceNeg, Nat.reduceAdd, Nat.reduceEqDiff, Nat.reduceLT, Nat.reduceLeDiff, Nat.reduceMul, Nat.reduceSub, reduceCtorEq, ↓reduceIte]
    exact .keepW rfl
def vint (u : Nat) : List UInt8 := if h : u < 128 then [u.toUInt8] else (u % 128 + 128).toUInt8 :: vint (u / 128)
theorem vint_lt {u : Nat} (h : u < 128) : vint u = [u.toUInt8] := by rw [vint, dif_pos h]
theorem vint_ge {u : Nat} (h : ¬ u < 128) : vint u = (u % 128 + 128).toUInt8 :: vint (u / 128) := by rw [vint, dif_neg h]
theorem vint_len : ∀ (k u : Nat), u < 128 ^ (k + 1) → (vint u).length ≤ k + 1
  | 0, u, h => by rw [vint_lt (by omega)]; simp
  | k + 1, u, h => by
    by_cases h1 : u < 128
    · rw [vint_lt h1]; simp
    · rw [vint_ge h1]
      have := vint_len k (u / 128) (by rw [Nat.pow_succ] at h; omega)
      simp
      omega
theorem zig_lt (n : Int) (h1 : -9223372036854775808 ≤ n) (h2 : n ≤ 9223372036854775807) : zigN n < 18446744073709551616 := by
  unfold zigN
  split <;> omega
def vput (n : Int) : List UInt8 := vint (zigN n)
theorem vput_len (n : Int) (h1 : -9223372036854775808 ≤ n) (h2 : n ≤ 9223372036854775807) : (vput n).length ≤ 10 := by
  have := zig_lt n h1 h2
  exact vint_len 9 _ (by omega)
theorem or128 (u : Nat) : IntKind.u8.wrap ((BitVec.ofInt 8 (IntKind.u8.wrap (u : Int)) ||| BitVec.ofInt 8 128).toNat : Int) = (((u % 128 + 128).toUInt8).toNat : Int) := by
  rw [IntKind.wrap_u8, IntKind.wrap_u8]
  have e1 : (u : Int) % 256 = ((u % 256 : Nat) : Int) := by omega
  rw [e1, BitVec.ofInt_natCast]
  have key : ∀ x : Fin 256, ((BitVec.ofNat 8 x.val ||| BitVec.ofInt 8 128).toNat) = x.val % 128 + 128 := by decide +kernel
  have := key ⟨u % 256, by omega⟩
  simp only [] at this
  rw [this]
  simp
set_option maxRecDepth 100000 in
set_option maxHeartbeats 800000 in
theorem vput_told (l : List UInt8) (n : Int) (hl : l.length ≤ 1000000000) (h1 : -9223372036854775808 ≤ n) (h2 : n ≤ 9223372036854775807) : ToldM Tryz.prog 159 [.row 1000000 l.length, .c (.v (.int .i64 n))] [bB l] [some (bB (l ++ vput n))] (.row 1000000 (l ++ vput n).length) := by
  unfold bB
  have hz := zig_told n h1 h2
  have hzl := zig_lt n h1 h2
  have hvl := vput_len n h1 h2
  unfold vput at hvl ⊢
  generalize zigN n = u at hz hzl hvl
  refine VC.toldM ent_159 [] Tryz.func159 rfl Tryz.ntmps159 (by simp) (by simp only [ bA_len, bA_sc, ScM, zOk, inL, eq_self, used_is, sc_any, sc_c, sc_pp, sc_ref, sc_row, sc_agg, sc_tup, sc_fn, ScL, some_imp, List.forall_mem_map, Nat.le_refl, go_sem, Int.reduceBEq, Int.reduceLE, Int.reduceLT, Int.reduceNeg, Nat.reduceAdd, Nat.reduceEqDiff, Nat.reduceLT, Nat.reduceLeDiff, Nat.reduceMul, Nat.reduceSub, reduceCtorEq, ↓reduceIte]) (by simp only [ bA_len, bA_sc, ScM, zOk, inL, eq_self, used_is, sc_any, sc_c, sc_pp, sc_ref, sc_row, sc_agg, sc_tup, sc_fn, ScL, some_imp, List.forall_mem_map, Nat.le_refl, go_sem, Int.reduceBEq, Int.reduceLE, Int.reduceLT, Int.reduceNeg, Nat.reduceAdd, Nat.reduceEqDiff, Nat.reduceLT, Nat.reduceLeDiff, Nat.reduceMul, Nat.reduceSub, reduceCtorEq, ↓reduceIte]) (by simp only [ bA_len, bA_sc, ScM, zOk, inL, eq_self, used_is, sc_any, sc_c, sc_pp, sc_ref, sc_row, sc_agg, sc_tup, sc_fn, ScL, some_imp, List.forall_mem_map, Nat.le_refl, go_sem, Int.reduceBEq, Int.reduceLE, Int.reduceLT, Int.reduceNeg, Nat.reduceAdd, Nat.reduceEqDiff, Nat.reduceLT, Nat.reduceLeDiff, Nat.reduceMul, Nat.reduceSub, reduceCtorEq, ↓reduceIte]) (by simp only [ bA_len, bA_sc, ScM, zOk, inL, eq_self, used_is, sc_any, sc_c, sc_pp, sc_ref, sc_row, sc_agg, sc_tup, sc_fn, ScL, some_imp, List.forall_mem_map, Nat.le_refl, go_sem, Int.reduceBEq, Int.reduceLE, Int.reduceLT, Int.reduceNeg, Nat.reduceAdd, Nat.reduceEqDiff, Nat.reduceLT, Nat.reduceLeDiff, Nat.reduceMul, Nat.reduceSub, reduceCtorEq, ↓reduceIte]) (by simp) fun hb hbL => ?_
  clear hb hbL
  refine walkGF (@bA_len) ?_
  refine walkC (hz) ?_
  refine walkGF (@bA_len) ?_
  refine VC.loop (ι := {q : Nat × List UInt8 // q.1 < 18446744073709551616 ∧ q.2.length ≤ l.length + 10 ∧ q.2 ++ vint q.1 = l ++ vint u}) (fun q => [(0, .row 1000000 q.1.2.length), (5, .c (.v (.int .u64 (q.1.1 : Int))))])
    (fun q => [(1000000, ⟨true, 5, 1, bA q.1.2⟩)]) 400 (fun q => q.1.1) ⟨(u, l), hzl, by simp only []; omega, rfl⟩ ?_ ?_
  · simp only [bA_len, bA_sc, Weak, eq_self, used_is, sc_any, sc_c, sc_pp, sc_ref, sc_row, sc_agg, sc_fn, ScL, some_imp, List.forall_mem_map, go_sem, Int.reduceBEq, Int.reduceLE, Int.reduceLT, Int.reduceNeg, Nat.reduceAdd, Nat.reduceEqDiff, Nat.reduceLT, Nat.reduceLeDiff, Nat.reduceMul, Nat.reduceSub, reduceCtorEq, ↓reduceIte]
    exact Nat.le_refl _
  rintro ⟨⟨w, m⟩, hw, hml, hq⟩
  simp only [] at hw hml hq ⊢
  refine walkGF (@bA_len) ?_
  refine VC.cond (by rfl) (by trivial) (fun hc => ?_) (fun hc => ?_)
  · have hge : ¬ w < 128 := by simp at hc; omega
    rw [vint_ge hge] at hq
    have hor : IntKind.u8.wrap ((BitVec.ofInt IntKind.u8.bits (IntKind.u8.wrap (w : Int)) ||| BitVec.ofInt IntKind.u8.bits 128).toNat : Int) = (((w % 128 + 128).toUInt8).toNat : Int) := or128 w
    obtain ⟨r, hr⟩ : ∃ r, r = m ++ [(w % 128 + 128).toUInt8] := ⟨_, rfl⟩
    have hbo : bA m ++ [[AV.c (.v (.int .u8 (((w % 128 + 128).toUInt8).toNat : Int)))]] = bA r := by rw [hr]; exact bA_one m _
    have hle : m.length + 1 = r.length := by rw [hr]; simp
    have hrl : r.length ≤ l.length + 10 := by
      have := congrArg List.length hq
      simp at this
      omega
    have hq7 : (w : Int).fdiv (2 ^ min (Int.toNat 7) 64) = ((w / 128 : Nat) : Int) := by
      rw [show (2 : Int) ^ min (Int.toNat 7) 64 = 128 from rfl, Int.fdiv_eq_ediv_of_nonneg _ (by decide)]
      omega
    (try simp only [go_sem, Int.reduceBEq, Int.reduceLE, Int.reduceLT, Int.reduceNeg, Nat.reduceAdd, Nat.reduceEqDiff, Nat.reduceLT, Nat.reduceLeDiff, Nat.reduceMul, Nat.reduceSub, reduceCtorEq, ↓reduceIte] at hor)
    refine walkGF (And.intro @bA_len (And.intro hor (And.intro hbo (And.intro hle hq7)))) ?_
    refine .next ⟨(w / 128, r), by simp only []; omega, hrl, by simp only []; rw [hr, List.append_assoc]; exact hq⟩ ?_ (by simp only []; omega)
    simp only [bA_len, bA_sc, Weak, eq_self, used_is, sc_any, sc_c, sc_pp, sc_ref, sc_row, sc_agg, sc_fn, ScL, some_imp, List.forall_mem_map, go_sem, Int.reduceBEq, Int.reduceLE, Int.reduceLT, Int.reduceNeg, Nat.reduceAdd, Nat.reduceEqDiff, Nat.reduceLT, Nat.reduceLeDiff, Nat.reduceMul, Nat.reduceSub, reduceCtorEq, ↓reduceIte]
    exact Nat.le_refl _
  · have hlt : w < 128 := by simp at hc; omega
    rw [vint_lt hlt] at hq
    have hw8 : IntKind.u8.wrap (w : Int) = ((w.toUInt8).toNat : Int) := by
      rw [IntKind.wrap_u8]
      simp
    have hbo : bA m ++ [[AV.c (.v (.int .u8 ((w.toUInt8).toNat : Int)))]] = bA (l ++ vint u) := by rw [← hq]; exact bA_one m _
    have hle : m.length + 1 = (l ++ vint u).length := by rw [← hq]; simp
    refine walkGF (And.intro @bA_len (And.intro hw8 (And.intro hbo hle))) ?_
    refine ⟨by first | exact .inr rfl | exact .inl rfl, ?_⟩; rw [Tryz.results159]; simp only [bA_ren, bA_len, resOk, resV, go_sem, Int.reduceBEq, Int.reduceLE, Int.reduceLT, Int.reduceNeg, Nat.reduceAdd, Nat.reduceEqDiff, Nat.reduceLT, Nat.reduceLeDiff, Nat.reduceMul, Nat.reduceSub, reduceCtorEq, ↓reduceIte]
    exact .keepW rfl
set_option maxRecDepth 100000 in
set_option maxHeartbeats 800000 in
theorem pbytes_told (l x : List UInt8) (hl : l.length ≤ 100000000) (hx : x.length ≤ 100000000) : ToldM Tryz.prog 161 [.row 1000000 l.length, .c (.sl 1 (bytePV x))] [bB l] [some (bB (l ++ (vput (x.length : Int) ++ x)))] (.row 1000000 (l ++ (vput (x.length : Int) ++ x)).length) := by
  have hV := vput_told l (x.length : Int) (by omega) (by omega) (by omega)
  have hvl := vput_len (x.length : Int) (by omega) (by omega)
  have hxl : (bytePV x).length = x.length := by simp [bytePV]
  obtain ⟨m, hm⟩ : ∃ m, m = l ++ vput (x.length : Int) := ⟨_, rfl⟩
  have hml : m.length ≤ l.length + 10 := by rw [hm]; simp; omega
  have hfin : l ++ (vput (x.length : Int) ++ x) = m ++ x := by rw [hm, List.append_assoc]
  rw [← hm] at hV
  rw [hfin]
  obtain ⟨q, hq⟩ : ∃ q, q = m ++ x := ⟨_, rfl⟩
  have hbo : bA m ++ (bytePV x).map (fun e => e.map AV.c) = bA q := by rw [hq, ← bA_app]; congr 1; exact (bA_pv x).symm
  have hle : m.length + x.length = q.length := by rw [hq]; simp
  rw [← hq]
  unfold bB at hV ⊢
  refine VC.toldM ent_161 [] Tryz.func161 rfl Tryz.ntmps161 (by simp) (by simp only [ bA_len, bA_sc, ScM, zOk, inL, eq_self, used_is, sc_any, sc_c, sc_pp, sc_ref, sc_row, sc_agg, sc_tup, sc_fn, ScL, some_imp, List.forall_mem_map, Nat.le_refl, go_sem, Int.reduceBEq, Int.reduceLE, Int.reduceLT, Int.reduceNeg, Nat.reduceAdd, Nat.reduceEqDiff, Nat.reduceLT, Nat.reduceLeDiff, Nat.reduceMul, Nat.reduceSub, reduceCtorEq, ↓reduceIte]) (by simp only [ bA_len, bA_sc, ScM, zOk, inL, eq_self, used_is, sc_any, sc_c, sc_pp, sc_ref, sc_row, sc_agg, sc_tup, sc_fn, ScL, some_imp, List.forall_mem_map, Nat.le_refl, go_sem, Int.reduceBEq, Int.reduceLE, Int.reduceLT, Int.reduceNeg, Nat.reduceAdd, Nat.reduceEqDiff, Nat.reduceLT, Nat.reduceLeDiff, Nat.reduceMul, Nat.reduceSub, reduceCtorEq, ↓reduceIte]) (by simp only [ bA_len, bA_sc, ScM, zOk, inL, eq_self, used_is, sc_any, sc_c, sc_pp, sc_ref, sc_row, sc_agg, sc_tup, sc_fn, ScL, some_imp, List.forall_mem_map, Nat.le_refl, go_sem, Int.reduceBEq, Int.reduceLE, Int.reduceLT, Int.reduceNeg, Nat.reduceAdd, Nat.reduceEqDiff, Nat.reduceLT, Nat.reduceLeDiff, Nat.reduceMul, Nat.reduceSub, reduceCtorEq, ↓reduceIte]) (by simp only [ bA_len, bA_sc, ScM, zOk, inL, eq_self, used_is, sc_any, sc_c, sc_pp, sc_ref, sc_row, sc_agg, sc_tup, sc_fn, ScL, some_imp, List.forall_mem_map, Nat.le_refl, go_sem, Int.reduceBEq, Int.reduceLE, Int.reduceLT, Int.reduceNeg, Nat.reduceAdd, Nat.reduceEqDiff, Nat.reduceLT, Nat.reduceLeDiff, Nat.reduceMul, Nat.reduceSub, reduceCtorEq, ↓reduceIte]) (by simp) fun hb hbL => ?_
  clear hb hbL
  refine walkGF (And.intro @bA_len hxl) ?_
  ((refine AO.step fun K hK => ?_; simp only [go_sem, Int.reduceBEq, Int.reduceLE, Int.reduceLT, Int.reduceNeg, Nat.reduceAdd, Nat.reduceEqDiff, Nat.reduceLT, Nat.reduceLeDiff, Nat.reduceMul, Nat.reduceSub, reduceCtorEq, ↓reduceIte, bA_len, bA_ren]; (first | refine gsel_go ?_ | skip)); refine .inr (.inr (.inl ⟨?vy1, [1000000], ?va1, ?vl1, ?vm1, ?cond1, ?cont1⟩)); (case cond1 => ((repeat' apply And.intro) <;> (try ((with_reducible show ToldM _ _ _ _ _ _); exact hV))); (all_goals first | trivial | (simp only [bA_len, bA_ren, go_sem, Int.reduceBEq, Int.reduceLE, Int.reduceLT, Int.reduceNeg, Nat.reduceAdd, Nat.reduceEqDiff, Nat.reduceLT, Nat.reduceLeDiff, Nat.reduceMul, Nat.reduceSub, reduceCtorEq, ↓reduceIte]; done) | (simp; done) | rfl)); (first | refine hK _ _ _ ?_ | (simp only [bA_len, bA_ren, go_sem, Int.reduceBEq, Int.reduceLE, Int.reduceLT, Int.reduceNeg, Nat.reduceAdd, Nat.reduceEqDiff, Nat.reduceLT, Nat.reduceLeDiff, Nat.reduceMul, Nat.reduceSub, reduceCtorEq, ↓reduceIte]; first | refine hK _ _ _ ?_ | refine ⟨rfl, hK _ _ _ ?_⟩)); clear hK K)
  refine walkGF (And.intro @bA_len (And.intro @bA_ren (And.intro hxl (And.intro hbo hle)))) ?_
  refine ⟨by first | exact .inr rfl | exact .inl rfl, ?_⟩; rw [Tryz.results161]; simp only [bA_ren, bA_len, resOk, resV, go_sem, Int.reduceBEq, Int.reduceLE, Int.reduceLT, Int.reduceNeg, Nat.reduceAdd, Nat.reduceEqDiff, Nat.reduceLT, Nat.reduceLeDiff, Nat.reduceMul, Nat.reduceSub, reduceCtorEq, ↓reduceIte]
  exact .keepW rfl
def bitsB (b : Int) : Nat → List UInt8
  | 0 => []
  | n + 1 => bitsB b n ++ [(b.toNat / 256 ^ n).toUInt8]
theorem bitsB_len (b : Int) : ∀ n, (bitsB b n).length = n
  | 0 => rfl
  | n + 1 => by rw [bitsB, List.length_append, bitsB_len b n]; rfl
set_option maxRecDepth 100000 in
set_option maxHeartbeats 800000 in
theorem pbits_told (l : List UInt8) (b : Int) (k : Nat) (hl : l.length ≤ 1000000000) (h1 : 0 ≤ b) (h2 : b < 18446744073709551616) (hk : k ≤ 8) : ToldM Tryz.prog 160 [.row 1000000 l.length, .c (.v (.int .u64 b)), .c (.v (.int .i64 (k : Int)))] [bB l] [some (bB (l ++ bitsB b k))] (.row 1000000 (l ++ bitsB b k).length) := by
  unfold bB
  refine VC.toldM ent_160 [] Tryz.func160 rfl Tryz.ntmps160 (by simp) (by simp only [ bA_len, bA_sc, ScM, zOk, inL, eq_self, used_is, sc_any, sc_c, sc_pp, sc_ref, sc_row, sc_agg, sc_tup, sc_fn, ScL, some_imp, List.forall_mem_map, Nat.le_refl, go_sem, Int.reduceBEq, Int.reduceLE, Int.reduceLT, Int.reduceNeg, Nat.reduceAdd, Nat.reduceEqDiff, Nat.reduceLT, Nat.reduceLeDiff, Nat.reduceMul, Nat.reduceSub, reduceCtorEq, ↓reduceIte]) (by simp only [ bA_len, bA_sc, ScM, zOk, inL, eq_self, used_is, sc_any, sc_c, sc_pp, sc_ref, sc_row, sc_agg, sc_tup, sc_fn, ScL, some_imp, List.forall_mem_map, Nat.le_refl, go_sem, Int.reduceBEq, Int.reduceLE, Int.reduceLT, Int.reduceNeg, Nat.reduceAdd, Nat.reduceEqDiff, Nat.reduceLT, Nat.reduceLeDiff, Nat.reduceMul, Nat.reduceSub, reduceCtorEq, ↓reduceIte]) (by simp only [ bA_len, bA_sc, ScM, zOk, inL, eq_self, used_is, sc_any, sc_c, sc_pp, sc_ref, sc_row, sc_agg, sc_tup, sc_fn, ScL, some_imp, List.forall_mem_map, Nat.le_refl, go_sem, Int.reduceBEq, Int.reduceLE, Int.reduceLT, Int.reduceNeg, Nat.reduceAdd, Nat.reduceEqDiff, Nat.reduceLT, Nat.reduceLeDiff, Nat.reduceMul, Nat.reduceSub, reduceCtorEq, ↓reduceIte]) (by simp only [ bA_len, bA_sc, ScM, zOk, inL, eq_self, used_is, sc_any, sc_c, sc_pp, sc_ref, sc_row, sc_agg, sc_tup, sc_fn, ScL, some_imp, List.forall_mem_map, Nat.le_refl, go_sem, Int.reduceBEq, Int.reduceLE, Int.reduceLT, Int.reduceNeg, Nat.reduceAdd, Nat.reduceEqDiff, Nat.reduceLT, Nat.reduceLeDiff, Nat.reduceMul, Nat.reduceSub, reduceCtorEq, ↓reduceIte]) (by simp) fun hb hbL => ?_
  clear hb hbL
  have hmx : min (max (k : Int) 0) 8 = (k : Int) := by omega
  refine walkGF (And.intro @bA_len hmx) ?_
  refine VC.loop (ι := {i : Nat // i ≤ k}) (fun q => [(0, .row 1000000 (l ++ bitsB b q.1).length), (1, .c (.v (.int .u64 b))), (10, .c (.v (.int .i64 (k : Int)))), (11, .c (.v (.int .i64 (q.1 : Int))))])
    (fun q => [(1000000, ⟨true, 5, 1, bA (l ++ bitsB b q.1)⟩)]) 400 (fun q => k - q.1) ⟨0, Nat.zero_le _⟩ ?_ ?_
  · simp only [bA_len, bA_sc, bitsB, List.append_nil, Weak, eq_self, used_is, sc_any, sc_c, sc_pp, sc_ref, sc_row, sc_agg, sc_fn, ScL, some_imp, List.forall_mem_map, go_sem, Int.reduceBEq, Int.reduceLE, Int.reduceLT, Int.reduceNeg, Nat.reduceAdd, Nat.reduceEqDiff, Nat.reduceLT, Nat.reduceLeDiff, Nat.reduceMul, Nat.reduceSub, reduceCtorEq, ↓reduceIte]
    try simp
  rintro ⟨i, hi⟩
  simp only []
  have hbl := bitsB_len b i
  obtain ⟨m, hm⟩ : ∃ m, m = l ++ bitsB b i := ⟨_, rfl⟩
  have hml : m.length = l.length + i := by rw [hm]; simp [hbl]
  have hmn : l ++ bitsB b (i + 1) = m ++ [(b.toNat / 256 ^ i).toUInt8] := by rw [hm, bitsB, List.append_assoc]
  rw [← hm]
  refine walkGF (@bA_len) ?_
  refine VC.cond (by rfl) (by trivial) (fun hc => ?_) (fun hc => ?_)
  · have hlt : i < k := by simp at hc; omega
    have hw : IntKind.i64.wrap ((i : Int) + 1) = (i : Int) + 1 := wrap64_id (by omega) (by omega)
    have hw8 : IntKind.i64.wrap (8 * (i : Int)) = ((8 * i : Nat) : Int) := by rw [wrap64_id (by omega) (by omega)]; omega
    have hsh : b.fdiv (2 ^ min (IntKind.u64.wrap ((8 * i : Nat) : Int)).toNat 64) = ((b.toNat / 256 ^ i : Nat) : Int) := by
      rw [IntWalk.u64_in _ ⟨by omega, by omega⟩, Int.toNat_natCast, Nat.min_eq_left (by omega), Int.fdiv_eq_ediv_of_nonneg _ (by exact Int.le_of_lt (Int.pow_pos (by decide)))]
      obtain ⟨c, rfl⟩ : ∃ c : Nat, b = (c : Int) := ⟨b.toNat, by omega⟩
      rw [show ((2 : Int) ^ (8 * i)) = ((256 ^ i : Nat) : Int) from by rw [Int.pow_mul]; simp, Int.toNat_natCast]
      rfl
    have hu8 : IntKind.u8.wrap ((b.toNat / 256 ^ i : Nat) : Int) = (((b.toNat / 256 ^ i).toUInt8).toNat : Int) := by
      rw [IntKind.wrap_u8]
      simp
    obtain ⟨r, hr⟩ : ∃ r, r = m ++ [(b.toNat / 256 ^ i).toUInt8] := ⟨_, rfl⟩
    have hbo : bA m ++ [[AV.c (.v (.int .u8 (((b.toNat / 256 ^ i).toUInt8).toNat : Int)))]] = bA r := by rw [hr]; exact bA_one m _
    have hle : m.length + 1 = r.length := by rw [hr]; simp
    rw [← hr] at hmn
    generalize b.toNat / 256 ^ i = z at hsh hu8 hbo
    refine walkGF (And.intro @bA_len (And.intro hw8 (And.intro hsh (And.intro hu8 (And.intro hbo (And.intro hle hw)))))) ?_
    refine .next ⟨i + 1, by omega⟩ ?_ (by simp only []; omega)
    simp only [bA_len, bA_sc, hmn, Weak, eq_self, used_is, sc_any, sc_c, sc_pp, sc_ref, sc_row, sc_agg, sc_fn, ScL, some_imp, List.forall_mem_map, go_sem, Int.reduceBEq, Int.reduceLE, Int.reduceLT, Int.reduceNeg, Nat.reduceAdd, Nat.reduceEqDiff, Nat.reduceLT, Nat.reduceLeDiff, Nat.reduceMul, Nat.reduceSub, reduceCtorEq, ↓reduceIte]
    exact ⟨cI (by omega), Nat.le_refl _⟩
  · have hie : i = k := by simp at hc; omega
    subst hie
    refine walkGF (@bA_len) ?_
    refine ⟨by first | exact .inr rfl | exact .inl rfl, ?_⟩; rw [Tryz.results160]; simp only [bA_ren, bA_len, hm, resOk, resV, go_sem, Int.reduceBEq, Int.reduceLE, Int.reduceLT, Int.reduceNeg, Nat.reduceAdd, Nat.reduceEqDiff, Nat.reduceLT, Nat.reduceLeDiff, Nat.reduceMul, Nat.reduceSub, reduceCtorEq, ↓reduceIte]
    exact .keepW rfl
end

def cutM (cuts : List Int) (c left : Nat) : Nat × Bool × Nat :=
  match cuts[c % cuts.length]? with
  | none => (left, false, c)
  | some n => (min left (n.natAbs % 9223372036854775808 % 4 + 1), decide (n < 0), c + 1)
def Enc := Nat → List UInt8 × Nat
def seqF : List Enc → Enc
  | [], c => ([], c)
  | f :: fs, c => ((f c).1 ++ (seqF fs (f c).2).1, (seqF fs (f c).2).2)
def headB (n : Nat) (sized : Bool) (len : Nat) : List UInt8 := if sized = true then vput (-(n : Int)) ++ vput (len : Int) else vput (n : Int)
def blkF (cuts : List Int) : Nat → List Enc → Enc
  | 0, _, c => (vput 0, c)
  | k + 1, [], c => (vput 0, c)
  | k + 1, f :: fs, c =>
    let q := cutM cuts c (fs.length + 1)
    let r := seqF ((f :: fs).take q.1) q.2.2
    let t := blkF cuts k ((f :: fs).drop q.1) r.2
    (headB q.1 q.2.1 r.1.length ++ (r.1 ++ t.1), t.2)
def keyF (y : List UInt8) (f : Enc) : Enc := fun c => ((vput (y.length : Int) ++ y) ++ (f c).1, (f c).2)
def leafM (nd : NT) (k n b : Int) (t : List UInt8) : List UInt8 :=
  if k = 2 then [if n = 0 then 0 else 1] else if k = 3 ∨ k = 4 ∨ k = 10 then vput n else if k = 5 then bitsB b 4 else if k = 6 then bitsB b 8
  else if k = 7 ∨ k = 8 then vput (t.length : Int) ++ t else if k = 14 then t else []
mutual
def encM (ns : List NT) (cuts : List Int) : Int → VT → Enc
  | a, .mk _ n b t xs ks => fun c => match ns[a.toNat]? with
    | none => ([], c)
    | some nd =>
      if nd.kind = 9 then seqF (encsM ns cuts (fun j => typeAt nd j) xs) c
      else if nd.kind = 11 then blkF cuts xs.length (encsM ns cuts (fun _ => nd.items) xs) c
      else if nd.kind = 12 then blkF cuts xs.length (List.zipWith keyF ks (encsM ns cuts (fun _ => nd.items) xs)) c
      else if nd.kind = 13 then (vput n ++ (seqF (encsM ns cuts (fun _ => branchAt nd n) xs) c).1, (seqF (encsM ns cuts (fun _ => branchAt nd n) xs) c).2)
      else (leafM nd nd.kind n b t, c)
def encsM (ns : List NT) (cuts : List Int) : (Nat → Int) → List VT → List Enc
  | _, [] => []
  | f, x :: xs => encM ns cuts (f 0) x :: encsM ns cuts (fun i => f (i + 1)) xs
end
theorem encs_at (ns : List NT) (cuts : List Int) : ∀ (xs : List VT) (f : Nat → Int) (i : Nat) (x : VT), xs[i]? = some x → (encsM ns cuts f xs)[i]? = some (encM ns cuts (f i) x)
  | [], f, i, x, h => by simp at h
  | y :: ys, f, 0, x, h => by
    obtain rfl := Option.some.inj h
    rw [encsM]
    rfl
  | y :: ys, f, i + 1, x, h => by
    rw [encsM, List.getElem?_cons_succ]
    exact encs_at ns cuts ys (fun i => f (i + 1)) i x (by simpa using h)
theorem encs_len (ns : List NT) (cuts : List Int) : ∀ (xs : List VT) (f : Nat → Int), (encsM ns cuts f xs).length = xs.length
  | [], f => by rw [encsM]; rfl
  | y :: ys, f => by rw [encsM, List.length_cons, encs_len ns cuts ys]; rfl
theorem cutM_pos (cuts : List Int) (c left : Nat) (h : 0 < left) : 0 < (cutM cuts c left).1 ∧ (cutM cuts c left).1 ≤ left ∧ c ≤ (cutM cuts c left).2.2 := by
  unfold cutM
  split
  · exact ⟨h, Nat.le_refl _, Nat.le_refl _⟩
  · exact ⟨by simp only []; omega, by simp only []; omega, by simp only []; omega⟩
def Up (f : Enc) : Prop := ∀ c, c ≤ (f c).2
theorem seqF_up : ∀ fs : List Enc, (∀ f ∈ fs, Up f) → Up (seqF fs)
  | [], _, c => Nat.le_refl _
  | f :: fs, h, c => by
    rw [seqF]
    exact Nat.le_trans (h f (by simp) c) (seqF_up fs (fun g hg => h g (by simp [hg])) _)
theorem blkF_up (cuts : List Int) : ∀ (k : Nat) (fs : List Enc), (∀ f ∈ fs, Up f) → Up (blkF cuts k fs)
  | 0, _, _, c => Nat.le_refl _
  | k + 1, [], _, c => Nat.le_refl _
  | k + 1, f :: fs, h, c => by
    rw [blkF]
    simp only []
    have h1 := (cutM_pos cuts c (fs.length + 1) (by omega)).2.2
    have h2 := seqF_up ((f :: fs).take (cutM cuts c (fs.length + 1)).1) (fun g hg => h g (List.mem_of_mem_take hg)) (cutM cuts c (fs.length + 1)).2.2
    have h3 := blkF_up cuts k ((f :: fs).drop (cutM cuts c (fs.length + 1)).1) (fun g hg => h g (List.mem_of_mem_drop hg)) (seqF ((f :: fs).take (cutM cuts c (fs.length + 1)).1) (cutM cuts c (fs.length + 1)).2.2).2
    omega
mutual
theorem encM_up (ns : List NT) (cuts : List Int) : ∀ (v : VT) (a : Int), Up (encM ns cuts a v)
  | .mk k n b t xs ks, a, c => by
    have h := encsM_up ns cuts xs
    rw [encM]
    split
    · exact Nat.le_refl _
    · split
      · exact seqF_up _ (h _) c
      · split
        · exact blkF_up cuts _ _ (h _) c
        · split
          · refine blkF_up cuts _ _ (fun f hf => ?_) c
            obtain ⟨i, hi⟩ := List.getElem?_of_mem hf
            rw [List.getElem?_zipWith] at hi
            split at hi
            · obtain rfl := Option.some.inj hi
              rename_i y g hy hg
              exact fun c => h _ g (List.mem_of_getElem? hg) c
            · simp at hi
          · split
            · exact seqF_up _ (h _) c
            · exact Nat.le_refl _
theorem encsM_up (ns : List NT) (cuts : List Int) : ∀ (xs : List VT) (f : Nat → Int), ∀ e ∈ encsM ns cuts f xs, Up e
  | [], f => by rw [encsM]; simp
  | x :: xs, f => by
    rw [encsM]
    intro e he
    rcases List.mem_cons.1 he with rfl | he
    · exact encM_up ns cuts x _
    · exact encsM_up ns cuts xs _ e he
end
section
attribute [local go_sem] opx opE ev okx gcond bnd okO AV.get AV.okb cAV upd_at putd_some putd_none wrs_nil wrs_cons look_nil look_cons st argT_at bpick_and bpick_or bpick_true bpick_false binV binI binS binVOk binOk isShift binSOk unV unVOk loadV loadP cellsA zeroA Blkd.len setE grown moreA moreR moreOk eqRes pv fillA fillE putSeg AV.cellish AV.pureL AV.pureB lentL_is ex_some AV.ren AV.renL renL_c Blkd.ren rho wrM renN lentOk rhoE keepM endOk tyA_2 tyA_3 tyA_4 tyA_5 tyA_6 tyA_7 tyA_8 tyA_9 tyA_10 tyA_11 tyA_12 tyA_13 tyA_14 tyA_15 tyA_16 tyA_17 tyA_18 tyA_19 tyA_21 tyA_22 tyA_23 tyA_24 tyA_29 tyA_30 tyA_31 tyA_32 tyA_33 tyA_34 tyA_35 tyA_36 tyA_37 tyA_38 tyA_39 tyA_40 tyA_41 tyA_42 tyA_43 tyA_51 tyA_73 tyA_77 tyA_99 tyA_100 tyA_101 tyA_114 tyA_120 tyA_121 tyA_122 tyA_131 tyA_132 tyA_133 tyA_134 tyA_135 tyA_138 tyA_139 tyA_140 tyA_149 tyA_163 tyA_168 tyA_210 tyA_212 tyA_219 tyA_227 tyA_231 tyA_233 tyA_237 tyA_238 tyA_239 tyA_240 tyA_241 tyA_243 tyA_244 tyA_246 tyA_247 tyA_248 tyA_251 Option.map_some Option.map_none Option.getD_some Option.getD_none Option.bind_some Option.bind_none List.getElem?_cons_zero List.getElem?_cons_succ List.getElem?_nil List.getElem?_toArray List.length_cons List.length_nil List.length_map List.forall_mem_map List.map_cons List.map_nil List.drop_zero List.drop_succ_cons List.drop_nil List.take_zero List.take_succ_cons List.take_nil List.mem_cons List.not_mem_nil or_false forall_eq_or_imp forall_eq List.set_cons_zero List.set_cons_succ List.cons_append List.nil_append List.append_nil List.foldl_cons List.foldl_nil List.replicate_succ List.replicate_zero List.all_cons List.all_nil if_true if_false Bool.false_eq_true ne_eq not_false_eq_true not_true_eq_false true_and and_true and_self true_implies imp_self implies_true forall_const beq_self_eq_true Bool.and_true Bool.true_and Bool.and_false Bool.false_and Bool.or_true Bool.true_or Bool.or_false Bool.false_or Bool.not_true Bool.not_false Bool.not_eq_eq_eq_not intKindOf Value.oneCell' Int.toNat_natCast beq_true beq_false Bool.not_eq_true false_implies false_or true_or or_true Nat.zero_add Nat.add_zero decide_true decide_false Int.cast_ofNat_Int Int.toNat_zero Int.toNat_one eq_self

def xE (ns : List NT) (r : Int) (cuts : List Int) (c : Nat) : Blkd := ⟨false, 140, 4, [[.c (.sl 10 (ns.map NT.cells)), .c (.v (.int .i64 r)), .c (.sl 1 (cuts.map iPV)), .c (.v (.int .i64 (c : Int)))]]⟩
set_option maxRecDepth 100000 in
set_option maxHeartbeats 800000 in
theorem ecut_told (ns : List NT) (r : Int) (cuts : List Int) (hcr : ∀ n ∈ cuts, -9223372036854775808 ≤ n ∧ n ≤ 9223372036854775807) (hcl : cuts.length ≤ 1000000000) (c left : Nat) (hc : c ≤ 1000000000) (hl : left ≤ 1000000000) :
    ToldM Tryz.prog 188 [.ref 1000000 1 0 0, .c (.v (.int .i64 (left : Int)))] [xE ns r cuts c] [some (xE ns r cuts (cutM cuts c left).2.2)] (.tup [.c (.v (.int .i64 ((cutM cuts c left).1 : Int))), .c (.v (.bool (cutM cuts c left).2.1))]) := by
  by_cases hn : cuts = []
  · subst hn
    have e : cutM [] c left = (left, false, c) := rfl
    rw [e]
    unfold xE
    refine VC.toldM ent_188 [] Tryz.func188 rfl Tryz.ntmps188 (by simp) (by simp only [ScM, zOk, inL, eq_self, used_is, sc_any, sc_c, sc_pp, sc_ref, sc_row, sc_agg, sc_tup, sc_fn, ScL, some_imp, List.forall_mem_map, Nat.le_refl, go_sem, Int.reduceBEq, Int.reduceLE, Int.reduceLT, Int.reduceNeg, Nat.reduceAdd, Nat.reduceEqDiff, Nat.reduceLT, Nat.reduceLeDiff, Nat.reduceMul, Nat.reduceSub, reduceCtorEq, ↓reduceIte]) (by simp only [ScM, zOk, inL, eq_self, used_is, sc_any, sc_c, sc_pp, sc_ref, sc_row, sc_agg, sc_tup, sc_fn, ScL, some_imp, List.forall_mem_map, Nat.le_refl, go_sem, Int.reduceBEq, Int.reduceLE, Int.reduceLT, Int.reduceNeg, Nat.reduceAdd, Nat.reduceEqDiff, Nat.reduceLT, Nat.reduceLeDiff, Nat.reduceMul, Nat.reduceSub, reduceCtorEq, ↓reduceIte]) (by simp only [ScM, zOk, inL, eq_self, used_is, sc_any, sc_c, sc_pp, sc_ref, sc_row, sc_agg, sc_tup, sc_fn, ScL, some_imp, List.forall_mem_map, Nat.le_refl, go_sem, Int.reduceBEq, Int.reduceLE, Int.reduceLT, Int.reduceNeg, Nat.reduceAdd, Nat.reduceEqDiff, Nat.reduceLT, Nat.reduceLeDiff, Nat.reduceMul, Nat.reduceSub, reduceCtorEq, ↓reduceIte]) (by simp only [ScM, zOk, inL, eq_self, used_is, sc_any, sc_c, sc_pp, sc_ref, sc_row, sc_agg, sc_tup, sc_fn, ScL, some_imp, List.forall_mem_map, Nat.le_refl, go_sem, Int.reduceBEq, Int.reduceLE, Int.reduceLT, Int.reduceNeg, Nat.reduceAdd, Nat.reduceEqDiff, Nat.reduceLT, Nat.reduceLeDiff, Nat.reduceMul, Nat.reduceSub, reduceCtorEq, ↓reduceIte]) (by simp) fun hb hbL => ?_
    clear hb hbL
    refine walkB ?_
    refine ⟨by first | exact .inr rfl | exact .inl rfl, ?_⟩; rw [Tryz.results188]; simp only [resOk, resV, go_sem, Int.reduceBEq, Int.reduceLE, Int.reduceLT, Int.reduceNeg, Nat.reduceAdd, Nat.reduceEqDiff, Nat.reduceLT, Nat.reduceLeDiff, Nat.reduceMul, Nat.reduceSub, reduceCtorEq, ↓reduceIte]
    exact ⟨.c _, .c _⟩
  · have hpos : 0 < cuts.length := List.length_pos_iff.2 hn
    have hmod := Nat.mod_lt c hpos
    obtain ⟨n, hx⟩ : ∃ n, cuts[c % cuts.length]? = some n := ⟨cuts[c % cuts.length], List.getElem?_eq_getElem hmod⟩
    obtain ⟨n1, n2⟩ := hcr n (List.mem_of_getElem? hx)
    have e : cutM cuts c left = (min left (n.natAbs % 9223372036854775808 % 4 + 1), decide (n < 0), c + 1) := by rw [cutM, hx]
    rw [e]
    have hxp : (cuts.map iPV)[c % cuts.length]? = some (iPV n) := by rw [List.getElem?_map, hx]; rfl
    have e0 : ((cuts.length : Int) == 0) = false := beq_eq_false_iff_ne.2 (by omega)
    have hm : Int.tmod (c : Int) (cuts.length : Int) = ((c % cuts.length : Nat) : Int) := by simp [Int.tmod]
    have hw1 : IntKind.i64.wrap ((c : Int) + 1) = ((c + 1 : Nat) : Int) := by rw [wrap64_id (by omega) (by omega)]; rfl
    obtain ⟨u, hu⟩ : ∃ u, u = n.natAbs := ⟨_, rfl⟩
    obtain ⟨w, hw⟩ : ∃ w, w = u % 9223372036854775808 % 4 + 1 := ⟨_, rfl⟩
    rw [← hu, ← hw]
    have hs : Int.tmod ((IntKind.u64.wrap ((u : Int) * 2 ^ min 1 64)).fdiv (2 ^ min 1 64)) 4 = ((u % 9223372036854775808 % 4 : Nat) : Int) := by
      rw [show (2 : Int) ^ min 1 64 = 2 from rfl, IntKind.wrap_u64, Int.fdiv_eq_ediv_of_nonneg _ (by decide)]
      have : (u : Int) * 2 % 18446744073709551616 / 2 = ((u % 9223372036854775808 : Nat) : Int) := by omega
      rw [this]
      simp [Int.tmod]
    have hs2 : IntKind.i64.wrap ((u % 9223372036854775808 % 4 : Nat) : Int) = ((u % 9223372036854775808 % 4 : Nat) : Int) := wrap64_id (by omega) (by omega)
    have hs3 : IntKind.i64.wrap (((u % 9223372036854775808 % 4 : Nat) : Int) + 1) = (w : Int) := by rw [wrap64_id (by omega) (by omega), hw]; rfl
    have hmn : min (left : Int) (w : Int) = ((min left w : Nat) : Int) := by omega
    generalize u % 9223372036854775808 % 4 = z at hs hs2 hs3
    unfold xE
    by_cases h0 : n < 0
    · have d0 : decide (n < 0) = true := by simpa using h0
      rw [d0]
      have hun : IntKind.u64.wrap (0 - IntKind.u64.wrap n) = (u : Int) := by
        rw [IntKind.wrap_u64, IntKind.wrap_u64]
        omega
      refine VC.toldM ent_188 [] Tryz.func188 rfl Tryz.ntmps188 (by simp) (by simp only [ScM, zOk, inL, eq_self, used_is, sc_any, sc_c, sc_pp, sc_ref, sc_row, sc_agg, sc_tup, sc_fn, ScL, some_imp, List.forall_mem_map, Nat.le_refl, go_sem, Int.reduceBEq, Int.reduceLE, Int.reduceLT, Int.reduceNeg, Nat.reduceAdd, Nat.reduceEqDiff, Nat.reduceLT, Nat.reduceLeDiff, Nat.reduceMul, Nat.reduceSub, reduceCtorEq, ↓reduceIte]) (by simp only [ScM, zOk, inL, eq_self, used_is, sc_any, sc_c, sc_pp, sc_ref, sc_row, sc_agg, sc_tup, sc_fn, ScL, some_imp, List.forall_mem_map, Nat.le_refl, go_sem, Int.reduceBEq, Int.reduceLE, Int.reduceLT, Int.reduceNeg, Nat.reduceAdd, Nat.reduceEqDiff, Nat.reduceLT, Nat.reduceLeDiff, Nat.reduceMul, Nat.reduceSub, reduceCtorEq, ↓reduceIte]) (by simp only [ScM, zOk, inL, eq_self, used_is, sc_any, sc_c, sc_pp, sc_ref, sc_row, sc_agg, sc_tup, sc_fn, ScL, some_imp, List.forall_mem_map, Nat.le_refl, go_sem, Int.reduceBEq, Int.reduceLE, Int.reduceLT, Int.reduceNeg, Nat.reduceAdd, Nat.reduceEqDiff, Nat.reduceLT, Nat.reduceLeDiff, Nat.reduceMul, Nat.reduceSub, reduceCtorEq, ↓reduceIte]) (by simp only [ScM, zOk, inL, eq_self, used_is, sc_any, sc_c, sc_pp, sc_ref, sc_row, sc_agg, sc_tup, sc_fn, ScL, some_imp, List.forall_mem_map, Nat.le_refl, go_sem, Int.reduceBEq, Int.reduceLE, Int.reduceLT, Int.reduceNeg, Nat.reduceAdd, Nat.reduceEqDiff, Nat.reduceLT, Nat.reduceLeDiff, Nat.reduceMul, Nat.reduceSub, reduceCtorEq, ↓reduceIte]) (by simp) fun hb hbL => ?_
      clear hb hbL
      refine walkBF (And.intro e0 (And.intro hm (And.intro hxp (And.intro @iPV_eq (And.intro hw1 (And.intro d0 (And.intro hun (And.intro hs (And.intro hs2 (And.intro hs3 hmn)))))))))) ?_
      refine ⟨by first | exact .inr rfl | exact .inl rfl, ?_⟩; rw [Tryz.results188]; simp only [resOk, resV, go_sem, Int.reduceBEq, Int.reduceLE, Int.reduceLT, Int.reduceNeg, Nat.reduceAdd, Nat.reduceEqDiff, Nat.reduceLT, Nat.reduceLeDiff, Nat.reduceMul, Nat.reduceSub, reduceCtorEq, ↓reduceIte]
      exact ⟨.c _, .c _⟩
    · have d0 : decide (n < 0) = false := by simpa using h0
      rw [d0]
      have hun : IntKind.u64.wrap n = (u : Int) := by
        rw [IntKind.wrap_u64]
        omega
      refine VC.toldM ent_188 [] Tryz.func188 rfl Tryz.ntmps188 (by simp) (by simp only [ScM, zOk, inL, eq_self, used_is, sc_any, sc_c, sc_pp, sc_ref, sc_row, sc_agg, sc_tup, sc_fn, ScL, some_imp, List.forall_mem_map, Nat.le_refl, go_sem, Int.reduceBEq, Int.reduceLE, Int.reduceLT, Int.reduceNeg, Nat.reduceAdd, Nat.reduceEqDiff, Nat.reduceLT, Nat.reduceLeDiff, Nat.reduceMul, Nat.reduceSub, reduceCtorEq, ↓reduceIte]) (by simp only [ScM, zOk, inL, eq_self, used_is, sc_any, sc_c, sc_pp, sc_ref, sc_row, sc_agg, sc_tup, sc_fn, ScL, some_imp, List.forall_mem_map, Nat.le_refl, go_sem, Int.reduceBEq, Int.reduceLE, Int.reduceLT, Int.reduceNeg, Nat.reduceAdd, Nat.reduceEqDiff, Nat.reduceLT, Nat.reduceLeDiff, Nat.reduceMul, Nat.reduceSub, reduceCtorEq, ↓reduceIte]) (by simp only [ScM, zOk, inL, eq_self, used_is, sc_any, sc_c, sc_pp, sc_ref, sc_row, sc_agg, sc_tup, sc_fn, ScL, some_imp, List.forall_mem_map, Nat.le_refl, go_sem, Int.reduceBEq, Int.reduceLE, Int.reduceLT, Int.reduceNeg, Nat.reduceAdd, Nat.reduceEqDiff, Nat.reduceLT, Nat.reduceLeDiff, Nat.reduceMul, Nat.reduceSub, reduceCtorEq, ↓reduceIte]) (by simp only [ScM, zOk, inL, eq_self, used_is, sc_any, sc_c, sc_pp, sc_ref, sc_row, sc_agg, sc_tup, sc_fn, ScL, some_imp, List.forall_mem_map, Nat.le_refl, go_sem, Int.reduceBEq, Int.reduceLE, Int.reduceLT, Int.reduceNeg, Nat.reduceAdd, Nat.reduceEqDiff, Nat.reduceLT, Nat.reduceLeDiff, Nat.reduceMul, Nat.reduceSub, reduceCtorEq, ↓reduceIte]) (by simp) fun hb hbL => ?_
      clear hb hbL
      refine walkBF (And.intro e0 (And.intro hm (And.intro hxp (And.intro @iPV_eq (And.intro hw1 (And.intro d0 (And.intro hun (And.intro hs (And.intro hs2 (And.intro hs3 hmn)))))))))) ?_
      refine ⟨by first | exact .inr rfl | exact .inl rfl, ?_⟩; rw [Tryz.results188]; simp only [resOk, resV, go_sem, Int.reduceBEq, Int.reduceLE, Int.reduceLT, Int.reduceNeg, Nat.reduceAdd, Nat.reduceEqDiff, Nat.reduceLT, Nat.reduceLeDiff, Nat.reduceMul, Nat.reduceSub, reduceCtorEq, ↓reduceIte]
      exact ⟨.c _, .c _⟩

def pE : Blkd := ⟨false, 138, 1, [[.ref 1000000 1 0 0]]⟩
theorem drop_eq' {α : Type} {l : List α} {i : Nat} {x : α} (h : l[i]? = some x) : l.drop i = x :: l.drop (i + 1) := by
  obtain ⟨hlt, rfl⟩ := List.getElem?_eq_some_iff.1 h
  exact List.drop_eq_getElem_cons hlt
set_option maxRecDepth 100000 in
set_option maxHeartbeats 3200000 in
theorem blocks_told (ns : List NT) (r : Int) (cuts : List Int) (hcr : ∀ n ∈ cuts, -9223372036854775808 ≤ n ∧ n ≤ 9223372036854775807) (hcl : cuts.length ≤ 1000000000) (g : FuncId) (c1 c2 : List PV) (fs : List Enc) (hup : ∀ f ∈ fs, Up f) (hfl : fs.length ≤ 1000000)
    (hg : ∀ (i : Nat) (f : Enc), fs[i]? = some f → ∀ (l : List UInt8) (c : Nat), (l ++ (f c).1).length ≤ 90000000 → (f c).2 ≤ 900000000 →
      ToldM Tryz.prog g [.row 1000001 l.length, .c (.v (.int .i64 (i : Int))), .ref 1000002 1 0 0, .pp c1, .pp c2] [xE ns r cuts c, bB l, pE] [some (xE ns r cuts (f c).2), some (bB (l ++ (f c).1)), some pE] (.row 1000001 (l ++ (f c).1).length))
    (l : List UInt8) (c : Nat) (h1 : (l ++ (blkF cuts fs.length fs c).1).length ≤ 90000000) (h2 : (blkF cuts fs.length fs c).2 ≤ 900000000) :
    ToldM Tryz.prog 162 [.ref 1000000 1 0 0, .row 1000001 l.length, .c (.v (.int .i64 (fs.length : Int))), .fn (.func g) [] [.ref 1000002 1 0 0, .pp c1, .pp c2]] [xE ns r cuts c, bB l, pE] [some (xE ns r cuts (blkF cuts fs.length fs c).2), some (bB (l ++ (blkF cuts fs.length fs c).1)), some pE] (.row 1000001 (l ++ (blkF cuts fs.length fs c).1).length) := by
  obtain ⟨O, hO⟩ : ∃ O, O = l ++ (blkF cuts fs.length fs c).1 := ⟨_, rfl⟩
  obtain ⟨C, hC⟩ : ∃ C, C = (blkF cuts fs.length fs c).2 := ⟨_, rfl⟩
  rw [← hO] at h1 ⊢
  rw [← hC] at h2 ⊢
  unfold bB xE pE at hg ⊢
  refine VC.toldM ent_162 [] Tryz.func162 rfl Tryz.ntmps162 (by simp) (by simp only [ bA_len, bA_sc, ScM, zOk, inL, eq_self, used_is, sc_any, sc_c, sc_pp, sc_ref, sc_row, sc_agg, sc_tup, sc_fn, ScL, some_imp, List.forall_mem_map, Nat.le_refl, go_sem, Int.reduceBEq, Int.reduceLE, Int.reduceLT, Int.reduceNeg, Nat.reduceAdd, Nat.reduceEqDiff, Nat.reduceLT, Nat.reduceLeDiff, Nat.reduceMul, Nat.reduceSub, reduceCtorEq, ↓reduceIte]) (by simp only [ bA_len, bA_sc, ScM, zOk, inL, eq_self, used_is, sc_any, sc_c, sc_pp, sc_ref, sc_row, sc_agg, sc_tup, sc_fn, ScL, some_imp, List.forall_mem_map, Nat.le_refl, go_sem, Int.reduceBEq, Int.reduceLE, Int.reduceLT, Int.reduceNeg, Nat.reduceAdd, Nat.reduceEqDiff, Nat.reduceLT, Nat.reduceLeDiff, Nat.reduceMul, Nat.reduceSub, reduceCtorEq, ↓reduceIte]) (by simp only [ bA_len, bA_sc, ScM, zOk, inL, eq_self, used_is, sc_any, sc_c, sc_pp, sc_ref, sc_row, sc_agg, sc_tup, sc_fn, ScL, some_imp, List.forall_mem_map, Nat.le_refl, go_sem, Int.reduceBEq, Int.reduceLE, Int.reduceLT, Int.reduceNeg, Nat.reduceAdd, Nat.reduceEqDiff, Nat.reduceLT, Nat.reduceLeDiff, Nat.reduceMul, Nat.reduceSub, reduceCtorEq, ↓reduceIte]) (by simp only [ bA_len, bA_sc, ScM, zOk, inL, eq_self, used_is, sc_any, sc_c, sc_pp, sc_ref, sc_row, sc_agg, sc_tup, sc_fn, ScL, some_imp, List.forall_mem_map, Nat.le_refl, go_sem, Int.reduceBEq, Int.reduceLE, Int.reduceLT, Int.reduceNeg, Nat.reduceAdd, Nat.reduceEqDiff, Nat.reduceLT, Nat.reduceLeDiff, Nat.reduceMul, Nat.reduceSub, reduceCtorEq, ↓reduceIte]) (by simp) fun hb hbL => ?_
  clear hb hbL
  refine walkG ?_
  refine VC.loop (ι := {q : Nat × List UInt8 × Nat × Nat // q.1 ≤ fs.length ∧ fs.length - q.1 ≤ q.2.2.2 ∧ q.2.1 ++ (blkF cuts q.2.2.2 (fs.drop q.1) q.2.2.1).1 = O ∧ (blkF cuts q.2.2.2 (fs.drop q.1) q.2.2.1).2 = C})
    (fun q => [(0, .ref 1000000 1 0 0), (1, .row 1000001 q.1.2.1.length), (2, .c (.v (.int .i64 (fs.length : Int)))), (3, .fn (.func g) [] [.ref 1000002 1 0 0, .pp c1, .pp c2]), (9, .c (.v (.int .i64 (q.1.1 : Int))))])
    (fun q => [(1000001, ⟨true, 5, 1, bA q.1.2.1⟩), (1000000, ⟨false, 140, 4, [[.c (.sl 10 (ns.map NT.cells)), .c (.v (.int .i64 r)), .c (.sl 1 (cuts.map iPV)), .c (.v (.int .i64 (q.1.2.2.1 : Int)))]]⟩), (1000002, ⟨false, 138, 1, [[.ref 1000000 1 0 0]]⟩)]) 400 (fun q => fs.length - q.1.1)
    ⟨(0, l, c, fs.length), Nat.zero_le _, by simp only []; omega, by simp only []; rw [List.drop_zero, hO], by simp only []; rw [List.drop_zero, hC]⟩ ?_ ?_
  · simp only [bA_len, bA_sc, Weak, eq_self, used_is, sc_any, sc_c, sc_pp, sc_ref, sc_row, sc_agg, sc_fn, ScL, some_imp, List.forall_mem_map, go_sem, Int.reduceBEq, Int.reduceLE, Int.reduceLT, Int.reduceNeg, Nat.reduceAdd, Nat.reduceEqDiff, Nat.reduceLT, Nat.reduceLeDiff, Nat.reduceMul, Nat.reduceSub, reduceCtorEq, ↓reduceIte]
    exact Nat.le_refl _
  clear hO hC
  rintro ⟨⟨i, m, d, k⟩, hi, hk, hm, hd⟩
  simp only [] at hi hk hm hd ⊢
  refine walkG ?_
  refine VC.cond (by rfl) (by trivial) (fun hc => ?_) (fun hc => ?_)
  · have hlt : i < fs.length := by simp at hc; omega
    obtain ⟨f0, hf0⟩ : ∃ f, fs[i]? = some f := ⟨fs[i], List.getElem?_eq_getElem hlt⟩
    obtain ⟨k, rfl⟩ : ∃ k', k = k' + 1 := ⟨k - 1, by omega⟩
    have hdl : (fs.drop (i + 1)).length + 1 = fs.length - i := by rw [List.length_drop]; omega
    rw [drop_eq' hf0, blkF, hdl] at hm hd
    rw [← drop_eq' hf0] at hm hd
    have hw1 : IntKind.i64.wrap ((fs.length : Int) - (i : Int)) = ((fs.length - i : Nat) : Int) := by rw [wrap64_id (by omega) (by omega)]; omega
    have hup1 := seqF_up ((fs.drop i).take (cutM cuts d (fs.length - i)).1) (fun f hf => hup f (List.mem_of_mem_drop (List.mem_of_mem_take hf))) (cutM cuts d (fs.length - i)).2.2
    have hup2 := blkF_up cuts k ((fs.drop i).drop (cutM cuts d (fs.length - i)).1) (fun f hf => hup f (List.mem_of_mem_drop (List.mem_of_mem_drop hf))) (seqF ((fs.drop i).take (cutM cuts d (fs.length - i)).1) (cutM cuts d (fs.length - i)).2.2).2
    have hcp := cutM_pos cuts d (fs.length - i) (by omega)
    simp only [] at hm hd
    have hCut := ecut_told ns r cuts hcr hcl d (fs.length - i) (by omega) (by omega)
    obtain ⟨n, sized, e, hQ⟩ : ∃ n s e, cutM cuts d (fs.length - i) = (n, s, e) := ⟨_, _, _, rfl⟩
    rw [hQ] at hm hd hup1 hup2 hcp hCut
    simp only [] at hm hd hup1 hup2 hcp hCut
    unfold xE at hCut
    obtain ⟨S, hS⟩ : ∃ S, S = seqF ((fs.drop i).take n) e := ⟨_, rfl⟩
    rw [← hS] at hm hd hup1 hup2
    rw [List.drop_drop] at hm hd hup2
    have hSl : S.1.length ≤ 90000000 := by
      have := congrArg List.length hm
      simp at this
      omega
    have hml : m.length + (headB n sized S.1.length).length + S.1.length ≤ 90000000 := by
      have := congrArg List.length hm
      simp at this
      omega
    refine walkGF (hw1) ?_
    ((refine AO.step fun K hK => ?_; simp only [go_sem, Int.reduceBEq, Int.reduceLE, Int.reduceLT, Int.reduceNeg, Nat.reduceAdd, Nat.reduceEqDiff, Nat.reduceLT, Nat.reduceLeDiff, Nat.reduceMul, Nat.reduceSub, reduceCtorEq, ↓reduceIte]; (first | refine gsel_go ?_ | skip)); refine .inr (.inr (.inl ⟨?vy1, [1000000], ?va1, ?vl1, ?vm1, ?cond1, ?cont1⟩)); (case cond1 => ((repeat' apply And.intro) <;> (try ((with_reducible show ToldM _ _ _ _ _ _); exact hCut))); (all_goals first | trivial | (simp only [go_sem, Int.reduceBEq, Int.reduceLE, Int.reduceLT, Int.reduceNeg, Nat.reduceAdd, Nat.reduceEqDiff, Nat.reduceLT, Nat.reduceLeDiff, Nat.reduceMul, Nat.reduceSub, reduceCtorEq, ↓reduceIte]; done) | (simp; done) | rfl)); (first | refine hK _ _ _ ?_ | (simp only [go_sem, Int.reduceBEq, Int.reduceLE, Int.reduceLT, Int.reduceNeg, Nat.reduceAdd, Nat.reduceEqDiff, Nat.reduceLT, Nat.reduceLeDiff, Nat.reduceMul, Nat.reduceSub, reduceCtorEq, ↓reduceIte]; first | refine hK _ _ _ ?_ | refine ⟨rfl, hK _ _ _ ?_⟩)); clear hK K)
    refine walkG ?_
    refine VC.nil 12 5 1 (by rfl) (by trivial) (by rfl) ?_
    refine VC.loop (ι := {q : Nat × List UInt8 × Nat // i ≤ q.1 ∧ q.1 ≤ i + n ∧ q.2.1 ++ (seqF ((fs.drop q.1).take (i + n - q.1)) q.2.2).1 = S.1 ∧ (seqF ((fs.drop q.1).take (i + n - q.1)) q.2.2).2 = S.2})
      (fun q => [(0, .ref 1000000 1 0 0), (1, .row 1000001 m.length), (2, .c (.v (.int .i64 (fs.length : Int)))), (3, .fn (.func g) [] [.ref 1000002 1 0 0, .pp c1, .pp c2]), (9, .c (.v (.int .i64 (i : Int)))), (10, .c (.v (.int .i64 (n : Int)))), (11, .c (.v (.bool sized))), (12, .row 528 q.1.2.1.length), (13, .c (.v (.int .i64 (q.1.1 : Int))))])
      (fun q => [(1000001, ⟨true, 5, 1, bA m⟩), (1000000, ⟨false, 140, 4, [[.c (.sl 10 (ns.map NT.cells)), .c (.v (.int .i64 r)), .c (.sl 1 (cuts.map iPV)), .c (.v (.int .i64 (q.1.2.2 : Int)))]]⟩), (1000002, ⟨false, 138, 1, [[.ref 1000000 1 0 0]]⟩), (528, ⟨true, 5, 1, bA q.1.2.1⟩)]) 2000 (fun q => i + n - q.1.1)
      ⟨(i, [], e), Nat.le_refl _, by simp only []; omega, by simp only []; rw [hS, show i + n - i = n by omega]; rfl, by simp only []; rw [hS, show i + n - i = n by omega]⟩ ?_ ?_
    · simp only [bA_len, bA_sc, Weak, eq_self, used_is, sc_any, sc_c, sc_pp, sc_ref, sc_row, sc_agg, sc_fn, ScL, some_imp, List.forall_mem_map, go_sem, Int.reduceBEq, Int.reduceLE, Int.reduceLT, Int.reduceNeg, Nat.reduceAdd, Nat.reduceEqDiff, Nat.reduceLT, Nat.reduceLeDiff, Nat.reduceMul, Nat.reduceSub, reduceCtorEq, ↓reduceIte]
      simp [bA_nil]
    rintro ⟨⟨j, blk, cc⟩, hj1, hj2, hblk, hcc⟩
    simp only [] at hj1 hj2 hblk hcc ⊢
    have hwn : IntKind.i64.wrap ((i : Int) + (n : Int)) = ((i + n : Nat) : Int) := by rw [wrap64_id (by omega) (by omega)]; omega
    refine walkGF (hwn) ?_
    refine VC.cond (by rfl) (by trivial) (fun hc2 => ?_) (fun hc2 => ?_)
    · have hjl : j < i + n := by simp at hc2; omega
      obtain ⟨f, hf⟩ : ∃ f, fs[j]? = some f := ⟨fs[j]'(by omega), List.getElem?_eq_getElem (by omega)⟩
      rw [drop_eq' hf, show i + n - j = (i + n - (j + 1)) + 1 by omega, List.take_succ_cons, seqF] at hblk hcc
      simp only [] at hblk hcc
      have hup3 := seqF_up ((fs.drop (j + 1)).take (i + n - (j + 1))) (fun f hf => hup f (List.mem_of_mem_drop (List.mem_of_mem_take hf))) (f cc).2
      have hG := hg j f hf blk cc (by
        have := congrArg List.length hblk
        simp at this ⊢
        omega) (by omega)
      rw [← List.append_assoc] at hblk
      obtain ⟨nb, hnb⟩ : ∃ nb, nb = blk ++ (f cc).1 := ⟨_, rfl⟩
      rw [← hnb] at hG hblk
      have hw : IntKind.i64.wrap ((j : Int) + 1) = (j : Int) + 1 := wrap64_id (by omega) (by omega)
      have hnl : nb.length ≤ 90000000 := by
        have := congrArg List.length hblk
        simp at this
        omega
      refine walkGF (@bA_len) ?_
      ((refine AO.step fun K hK => ?_; simp only [go_sem, Int.reduceBEq, Int.reduceLE, Int.reduceLT, Int.reduceNeg, Nat.reduceAdd, Nat.reduceEqDiff, Nat.reduceLT, Nat.reduceLeDiff, Nat.reduceMul, Nat.reduceSub, reduceCtorEq, ↓reduceIte, bA_len, bA_ren]; (first | refine gsel_go ?_ | skip)); refine .inr (.inr (.inl ⟨?vy2, [1000000, 528, 1000002], ?va2, ?vl2, ?vm2, ?cond2, ?cont2⟩)); (case cond2 => ((repeat' apply And.intro) <;> (try ((with_reducible show ToldM _ _ _ _ _ _); exact hG))); (all_goals first | trivial | (simp only [bA_len, bA_ren, go_sem, Int.reduceBEq, Int.reduceLE, Int.reduceLT, Int.reduceNeg, Nat.reduceAdd, Nat.reduceEqDiff, Nat.reduceLT, Nat.reduceLeDiff, Nat.reduceMul, Nat.reduceSub, reduceCtorEq, ↓reduceIte]; done) | (simp; done) | rfl)); (first | refine hK _ _ _ ?_ | (simp only [bA_len, bA_ren, go_sem, Int.reduceBEq, Int.reduceLE, Int.reduceLT, Int.reduceNeg, Nat.reduceAdd, Nat.reduceEqDiff, Nat.reduceLT, Nat.reduceLeDiff, Nat.reduceMul, Nat.reduceSub, reduceCtorEq, ↓reduceIte]; first | refine hK _ _ _ ?_ | refine ⟨rfl, hK _ _ _ ?_⟩)); clear hK K)
      refine walkGF (And.intro @bA_len (And.intro @bA_ren hw)) ?_
      refine .next ⟨(j + 1, nb, (f cc).2), by simp only []; omega, by simp only []; omega, hblk, hcc⟩ ?_ (by simp only []; omega)
      simp only [bA_len, bA_sc, bA_ren, Weak, eq_self, used_is, sc_any, sc_c, sc_pp, sc_ref, sc_row, sc_agg, sc_fn, ScL, some_imp, List.forall_mem_map, go_sem, Int.reduceBEq, Int.reduceLE, Int.reduceLT, Int.reduceNeg, Nat.reduceAdd, Nat.reduceEqDiff, Nat.reduceLT, Nat.reduceLeDiff, Nat.reduceMul, Nat.reduceSub, reduceCtorEq, ↓reduceIte]
      exact ⟨cI (by omega), Nat.le_refl _, Nat.le_refl _⟩
    · have hje : j = i + n := by simp at hc2; omega
      rw [hje, Nat.sub_self, List.take_zero, seqF, List.append_nil] at hblk
      rw [hje, Nat.sub_self, List.take_zero, seqF] at hcc
      simp only [] at hblk hcc
      subst hblk hcc
      have hbl2 : (bytePV S.1).length = S.1.length := by simp [bytePV]
      refine VC.frz [528] [(0, .ref 1000000 1 0 0), (1, .row 1000001 m.length), (2, .c (.v (.int .i64 (fs.length : Int)))), (3, .fn (.func g) [] [.ref 1000002 1 0 0, .pp c1, .pp c2]), (9, .c (.v (.int .i64 (i : Int)))), (10, .c (.v (.int .i64 (n : Int)))), (11, .c (.v (.bool sized))), (12, .c (.sl 1 (bytePV S.1)))] [(1000001, ⟨true, 5, 1, bA m⟩), (1000000, ⟨false, 140, 4, [[.c (.sl 10 (ns.map NT.cells)), .c (.v (.int .i64 r)), .c (.sl 1 (cuts.map iPV)), .c (.v (.int .i64 (S.2 : Int)))]]⟩), (1000002, ⟨false, 138, 1, [[.ref 1000000 1 0 0]]⟩)] 4000 ?_ ?_
      · simp only [bA_len, bA_sc, WeakF, used_is, sc_any, sc_c, sc_pp, sc_ref, sc_row, sc_agg, sc_fn, ScL, some_imp, List.forall_mem_map, go_sem, Int.reduceBEq, Int.reduceLE, Int.reduceLT, Int.reduceNeg, Nat.reduceAdd, Nat.reduceEqDiff, Nat.reduceLT, Nat.reduceLeDiff, Nat.reduceMul, Nat.reduceSub, reduceCtorEq, ↓reduceIte]
        exact ⟨⟨.same _, .same _, .same _, .same _, .same _, .same _, .same _, .row (B := ⟨true, 5, 1, bA S.1⟩) (es := bytePV S.1) (by simp) rfl rfl (bA_len _) (bA_pv _)⟩, ⟨.same _, .same _, .same _⟩, Nat.le_refl _⟩
      have hwf : IntKind.i64.wrap ((i : Int) + (n : Int)) = ((i + n : Nat) : Int) := hwn
      have hgo : ∀ m', m' = m ++ (headB n sized S.1.length ++ S.1) → m' ++ (blkF cuts k (fs.drop (i + n)) S.2).1 = O := fun m' h => by
        rw [h, ← hm]
        simp [List.append_assoc]
      cases sized with
      | true =>
        have hV1 := vput_told m (-(n : Int)) (by omega) (by omega) (by omega)
        have hl1 := vput_len (-(n : Int)) (by omega) (by omega)
        have hl2 := vput_len (S.1.length : Int) (by omega) (by omega)
        obtain ⟨m1, hm1⟩ : ∃ m1, m1 = m ++ vput (-(n : Int)) := ⟨_, rfl⟩
        have hm1l : m1.length ≤ m.length + 10 := by rw [hm1]; simp; omega
        have hV2 := vput_told m1 (S.1.length : Int) (by omega) (by omega) (by omega)
        obtain ⟨m2, hm2⟩ : ∃ m2, m2 = m1 ++ vput (S.1.length : Int) := ⟨_, rfl⟩
        have hm2l : m2.length ≤ m1.length + 10 := by rw [hm2]; simp; omega
        obtain ⟨m3, hm3⟩ : ∃ m3, m3 = m2 ++ S.1 := ⟨_, rfl⟩
        have hg3 := hgo m3 (by rw [hm3, hm2, hm1, headB, if_pos rfl]; simp [List.append_assoc])
        have hbo : bA m2 ++ (bytePV S.1).map (fun e => e.map AV.c) = bA m3 := by rw [hm3, ← bA_app]; congr 1; exact (bA_pv S.1).symm
        have hle : m2.length + S.1.length = m3.length := by rw [hm3]; simp
        have hwn2 : IntKind.i64.wrap (0 - (n : Int)) = -(n : Int) := by rw [wrap64_id (by omega) (by omega)]; omega
        rw [← hm1] at hV1
        rw [← hm2] at hV2
        unfold bB at hV1 hV2
        refine walkBF (And.intro @bA_len (And.intro hbl2 hwn2)) ?_
        ((refine AO.step fun K hK => ?_; simp only [go_sem, Int.reduceBEq, Int.reduceLE, Int.reduceLT, Int.reduceNeg, Nat.reduceAdd, Nat.reduceEqDiff, Nat.reduceLT, Nat.reduceLeDiff, Nat.reduceMul, Nat.reduceSub, reduceCtorEq, ↓reduceIte, bA_len, bA_ren]; (first | refine gsel_go ?_ | skip)); refine .inr (.inr (.inl ⟨?vy3, [1000001], ?va3, ?vl3, ?vm3, ?cond3, ?cont3⟩)); (case cond3 => ((repeat' apply And.intro) <;> (try ((with_reducible show ToldM _ _ _ _ _ _); exact hV1))); (all_goals first | trivial | (simp only [bA_len, bA_ren, go_sem, Int.reduceBEq, Int.reduceLE, Int.reduceLT, Int.reduceNeg, Nat.reduceAdd, Nat.reduceEqDiff, Nat.reduceLT, Nat.reduceLeDiff, Nat.reduceMul, Nat.reduceSub, reduceCtorEq, ↓reduceIte]; done) | (simp; done) | rfl)); (first | refine hK _ _ _ ?_ | (simp only [bA_len, bA_ren, go_sem, Int.reduceBEq, Int.reduceLE, Int.reduceLT, Int.reduceNeg, Nat.reduceAdd, Nat.reduceEqDiff, Nat.reduceLT, Nat.reduceLeDiff, Nat.reduceMul, Nat.reduceSub, reduceCtorEq, ↓reduceIte]; first | refine hK _ _ _ ?_ | refine ⟨rfl, hK _ _ _ ?_⟩)); clear hK K)
        refine walkGF (And.intro @bA_len (And.intro @bA_ren hbl2)) ?_
        ((refine AO.step fun K hK => ?_; simp only [go_sem, Int.reduceBEq, Int.reduceLE, Int.reduceLT, Int.reduceNeg, Nat.reduceAdd, Nat.reduceEqDiff, Nat.reduceLT, Nat.reduceLeDiff, Nat.reduceMul, Nat.reduceSub, reduceCtorEq, ↓reduceIte, bA_len, bA_ren]; (first | refine gsel_go ?_ | skip)); refine .inr (.inr (.inl ⟨?vy4, [1000001], ?va4, ?vl4, ?vm4, ?cond4, ?cont4⟩)); (case cond4 => ((repeat' apply And.intro) <;> (try ((with_reducible show ToldM _ _ _ _ _ _); exact hV2))); (all_goals first | trivial | (simp only [bA_len, bA_ren, go_sem, Int.reduceBEq, Int.reduceLE, Int.reduceLT, Int.reduceNeg, Nat.reduceAdd, Nat.reduceEqDiff, Nat.reduceLT, Nat.reduceLeDiff, Nat.reduceMul, Nat.reduceSub, reduceCtorEq, ↓reduceIte]; done) | (simp; done) | rfl)); (first | refine hK _ _ _ ?_ | (simp only [bA_len, bA_ren, go_sem, Int.reduceBEq, Int.reduceLE, Int.reduceLT, Int.reduceNeg, Nat.reduceAdd, Nat.reduceEqDiff, Nat.reduceLT, Nat.reduceLeDiff, Nat.reduceMul, Nat.reduceSub, reduceCtorEq, ↓reduceIte]; first | refine hK _ _ _ ?_ | refine ⟨rfl, hK _ _ _ ?_⟩)); clear hK K)
        refine walkGF (And.intro @bA_len (And.intro @bA_ren (And.intro hbl2 (And.intro hbo (And.intro hle hwf))))) ?_
        refine .next ⟨(i + n, m3, S.2, k), by simp only []; omega, by simp only []; omega, hg3, hd⟩ ?_ (by simp only []; omega)
        simp only [bA_len, bA_sc, bA_ren, Weak, eq_self, used_is, sc_any, sc_c, sc_pp, sc_ref, sc_row, sc_agg, sc_fn, ScL, some_imp, List.forall_mem_map, go_sem, Int.reduceBEq, Int.reduceLE, Int.reduceLT, Int.reduceNeg, Nat.reduceAdd, Nat.reduceEqDiff, Nat.reduceLT, Nat.reduceLeDiff, Nat.reduceMul, Nat.reduceSub, reduceCtorEq, ↓reduceIte]
        exact Nat.le_refl _
      | false =>
        have hV1 := vput_told m (n : Int) (by omega) (by omega) (by omega)
        have hl1 := vput_len (n : Int) (by omega) (by omega)
        obtain ⟨m2, hm2⟩ : ∃ m2, m2 = m ++ vput (n : Int) := ⟨_, rfl⟩
        have hm2l : m2.length ≤ m.length + 10 := by rw [hm2]; simp; omega
        obtain ⟨m3, hm3⟩ : ∃ m3, m3 = m2 ++ S.1 := ⟨_, rfl⟩
        have hg3 := hgo m3 (by rw [hm3, hm2, headB, if_neg (by simp)]; simp [List.append_assoc])
        have hbo : bA m2 ++ (bytePV S.1).map (fun e => e.map AV.c) = bA m3 := by rw [hm3, ← bA_app]; congr 1; exact (bA_pv S.1).symm
        have hle : m2.length + S.1.length = m3.length := by rw [hm3]; simp
        have hwn2 : IntKind.i64.wrap (n : Int) = (n : Int) := wrap64_id (by omega) (by omega)
        rw [← hm2] at hV1
        unfold bB at hV1
        refine walkBF (And.intro @bA_len (And.intro hbl2 hwn2)) ?_
        ((refine AO.step fun K hK => ?_; simp only [go_sem, Int.reduceBEq, Int.reduceLE, Int.reduceLT, Int.reduceNeg, Nat.reduceAdd, Nat.reduceEqDiff, Nat.reduceLT, Nat.reduceLeDiff, Nat.reduceMul, Nat.reduceSub, reduceCtorEq, ↓reduceIte, bA_len, bA_ren]; (first | refine gsel_go ?_ | skip)); refine .inr (.inr (.inl ⟨?vy5, [1000001], ?va5, ?vl5, ?vm5, ?cond5, ?cont5⟩)); (case cond5 => ((repeat' apply And.intro) <;> (try ((with_reducible show ToldM _ _ _ _ _ _); exact hV1))); (all_goals first | trivial | (simp only [bA_len, bA_ren, go_sem, Int.reduceBEq, Int.reduceLE, Int.reduceLT, Int.reduceNeg, Nat.reduceAdd, Nat.reduceEqDiff, Nat.reduceLT, Nat.reduceLeDiff, Nat.reduceMul, Nat.reduceSub, reduceCtorEq, ↓reduceIte]; done) | (simp; done) | rfl)); (first | refine hK _ _ _ ?_ | (simp only [bA_len, bA_ren, go_sem, Int.reduceBEq, Int.reduceLE, Int.reduceLT, Int.reduceNeg, Nat.reduceAdd, Nat.reduceEqDiff, Nat.reduceLT, Nat.reduceLeDiff, Nat.reduceMul, Nat.reduceSub, reduceCtorEq, ↓reduceIte]; first | refine hK _ _ _ ?_ | refine ⟨rfl, hK _ _ _ ?_⟩)); clear hK K)
        refine walkGF (And.intro @bA_len (And.intro @bA_ren (And.intro hbl2 (And.intro hbo (And.intro hle hwf))))) ?_
        refine .next ⟨(i + n, m3, S.2, k), by simp only []; omega, by simp only []; omega, hg3, hd⟩ ?_ (by simp only []; omega)
        simp only [bA_len, bA_sc, bA_ren, Weak, eq_self, used_is, sc_any, sc_c, sc_pp, sc_ref, sc_row, sc_agg, sc_fn, ScL, some_imp, List.forall_mem_map, go_sem, Int.reduceBEq, Int.reduceLE, Int.reduceLT, Int.reduceNeg, Nat.reduceAdd, Nat.reduceEqDiff, Nat.reduceLT, Nat.reduceLeDiff, Nat.reduceMul, Nat.reduceSub, reduceCtorEq, ↓reduceIte]
        exact Nat.le_refl _
  · have hie : i = fs.length := by simp at hc; omega
    have hdr : fs.drop i = [] := by rw [hie, List.drop_length]
    have hbl : blkF cuts k (fs.drop i) d = (vput 0, d) := by
      rw [hdr]
      cases k <;> rw [blkF]
    rw [hbl] at hm hd
    simp only [] at hm hd
    subst hd
    have hml : m.length ≤ 90000000 := by
      have := congrArg List.length hm
      simp at this
      omega
    have hV := vput_told m 0 (by omega) (by decide) (by decide)
    rw [hm] at hV
    unfold bB at hV
    refine walkGF (@bA_len) ?_
    ((refine AO.step fun K hK => ?_; simp only [go_sem, Int.reduceBEq, Int.reduceLE, Int.reduceLT, Int.reduceNeg, Nat.reduceAdd, Nat.reduceEqDiff, Nat.reduceLT, Nat.reduceLeDiff, Nat.reduceMul, Nat.reduceSub, reduceCtorEq, ↓reduceIte, bA_len, bA_ren]; (first | refine gsel_go ?_ | skip)); refine .inr (.inr (.inl ⟨?vy6, [1000001], ?va6, ?vl6, ?vm6, ?cond6, ?cont6⟩)); (case cond6 => ((repeat' apply And.intro) <;> (try ((with_reducible show ToldM _ _ _ _ _ _); exact hV))); (all_goals first | trivial | (simp only [bA_len, bA_ren, go_sem, Int.reduceBEq, Int.reduceLE, Int.reduceLT, Int.reduceNeg, Nat.reduceAdd, Nat.reduceEqDiff, Nat.reduceLT, Nat.reduceLeDiff, Nat.reduceMul, Nat.reduceSub, reduceCtorEq, ↓reduceIte]; done) | (simp; done) | rfl)); (first | refine hK _ _ _ ?_ | (simp only [bA_len, bA_ren, go_sem, Int.reduceBEq, Int.reduceLE, Int.reduceLT, Int.reduceNeg, Nat.reduceAdd, Nat.reduceEqDiff, Nat.reduceLT, Nat.reduceLeDiff, Nat.reduceMul, Nat.reduceSub, reduceCtorEq, ↓reduceIte]; first | refine hK _ _ _ ?_ | refine ⟨rfl, hK _ _ _ ?_⟩)); clear hK K)
    refine walkGF (And.intro @bA_len @bA_ren) ?_
    refine ⟨by first | exact .inr rfl | exact .inl rfl, ?_⟩; rw [Tryz.results162]; simp only [bA_ren, bA_len, resOk, resV, go_sem, Int.reduceBEq, Int.reduceLE, Int.reduceLT, Int.reduceNeg, Nat.reduceAdd, Nat.reduceEqDiff, Nat.reduceLT, Nat.reduceLeDiff, Nat.reduceMul, Nat.reduceSub, reduceCtorEq, ↓reduceIte]
    exact .keepW rfl
end

def idxP {α : Type} (p : α → Bool) (l : List α) : Int := match l.findIdx? p with | some i => (i : Int) | none => -1
theorem idxP_at {α : Type} {p : α → Bool} {l : List α} {i : Nat} {x : α} (h : l[i]? = some x) (hx : p x = true) (h0 : ∀ j y, j < i → l[j]? = some y → p y = false) : idxP p l = (i : Int) := by
  unfold idxP
  obtain ⟨hlt, he⟩ := List.getElem?_eq_some_iff.1 h
  have : l.findIdx? p = some i := by
    rw [List.findIdx?_eq_some_iff_getElem]
    refine ⟨hlt, by rw [he]; exact hx, fun j hj => ?_⟩
    have := h0 j _ hj (List.getElem?_eq_getElem (by omega))
    simp [this]
  rw [this]
theorem idxP_none {α : Type} {p : α → Bool} {l : List α} (h0 : ∀ j y, j < l.length → l[j]? = some y → p y = false) : idxP p l = -1 := by
  unfold idxP
  have : l.findIdx? p = none := by
    rw [List.findIdx?_eq_none_iff]
    intro x hx
    obtain ⟨j, hj, he⟩ := List.getElem_of_mem hx
    exact h0 j x hj (by rw [List.getElem?_eq_getElem hj, he])
  rw [this]
theorem idxP_any {α : Type} (p : α → Bool) (l : List α) : decide (idxP p l ≥ 0) = l.any p := by
  unfold idxP
  cases h : l.findIdx? p with
  | some i =>
    have := (List.findIdx?_eq_some_iff_getElem.1 h)
    obtain ⟨h1, h2, _⟩ := this
    have h3 : l.any p = true := List.any_eq_true.2 ⟨l[i], List.getElem_mem _, h2⟩
    rw [h3]
    simp
  | none =>
    rw [List.findIdx?_eq_none_iff] at h
    have h3 : l.any p = false := List.any_eq_false.2 fun x hx => by simpa using h x hx
    rw [h3]
    rfl
theorem sc_pureL {used : Nat → Prop} {h : Nat → Option Blkd} {l : List AV} (hp : AV.pureL l = true) : (∀ x ∈ l, Sc used h x) = True := eq_true fun x hx => (pure_ofL l hp x hx).sc
theorem pureL_app (l m : List AV) : AV.pureL (l ++ m) = (AV.pureL l && AV.pureL m) := by
  induction l with
  | nil => simp [AV.pureL]
  | cons x l ih => simp [AV.pureL, ih, Bool.and_assoc]
section
attribute [local go_sem] opx opE ev okx gcond bnd okO AV.get AV.okb cAV upd_at putd_some putd_none wrs_nil wrs_cons look_nil look_cons st argT_at bpick_and bpick_or bpick_true bpick_false binV binI binS binVOk binOk isShift binSOk unV unVOk loadV loadP cellsA zeroA Blkd.len setE grown moreA moreR moreOk eqRes pv fillA fillE putSeg AV.cellish AV.pureL AV.pureB lentL_is ex_some AV.ren AV.renL renL_c Blkd.ren rho wrM renN lentOk rhoE keepM endOk tyA_2 tyA_3 tyA_4 tyA_5 tyA_6 tyA_7 tyA_8 tyA_9 tyA_10 tyA_11 tyA_12 tyA_13 tyA_14 tyA_15 tyA_16 tyA_17 tyA_18 tyA_19 tyA_21 tyA_22 tyA_23 tyA_24 tyA_29 tyA_30 tyA_31 tyA_32 tyA_33 tyA_34 tyA_35 tyA_36 tyA_37 tyA_38 tyA_39 tyA_40 tyA_41 tyA_42 tyA_43 tyA_51 tyA_73 tyA_77 tyA_99 tyA_100 tyA_101 tyA_114 tyA_120 tyA_121 tyA_122 tyA_131 tyA_132 tyA_133 tyA_134 tyA_135 tyA_138 tyA_139 tyA_140 tyA_149 tyA_163 tyA_168 tyA_210 tyA_212 tyA_219 tyA_227 tyA_231 tyA_233 tyA_237 tyA_238 tyA_239 tyA_240 tyA_241 tyA_243 tyA_244 tyA_246 tyA_247 tyA_248 tyA_251 Option.map_some Option.map_none Option.getD_some Option.getD_none Option.bind_some Option.bind_none List.getElem?_cons_zero List.getElem?_cons_succ List.getElem?_nil List.getElem?_toArray List.length_cons List.length_nil List.length_map List.forall_mem_map List.map_cons List.map_nil List.drop_zero List.drop_succ_cons List.drop_nil List.take_zero List.take_succ_cons List.take_nil List.mem_cons List.not_mem_nil or_false forall_eq_or_imp forall_eq List.set_cons_zero List.set_cons_succ List.cons_append List.nil_append List.append_nil List.foldl_cons List.foldl_nil List.replicate_succ List.replicate_zero List.all_cons List.all_nil if_true if_false Bool.false_eq_true ne_eq not_false_eq_true not_true_eq_false true_and and_true and_self true_implies imp_self implies_true forall_const beq_self_eq_true Bool.and_true Bool.true_and Bool.and_false Bool.false_and Bool.or_true Bool.true_or Bool.or_false Bool.false_or Bool.not_true Bool.not_false Bool.not_eq_eq_eq_not intKindOf Value.oneCell' Int.toNat_natCast beq_true beq_false Bool.not_eq_true false_implies false_or true_or or_true Nat.zero_add Nat.add_zero decide_true decide_false Int.cast_ofNat_Int Int.toNat_zero Int.toNat_one eq_self

set_option maxRecDepth 100000 in
set_option maxHeartbeats 400000 in
theorem ixfS_told {g : FuncId} {fs cs : List AV} (hp : AV.pureL fs = true) (hp' : AV.pureL cs = true) (l : List (List UInt8)) (p : List UInt8 → Bool) (hk : ∀ x ∈ l, Told Tryz.prog g (fs ++ ([.c (.v (.string (str x)))] ++ cs)) (.c (.v (.bool (p x))))) :
    Told Tryz.prog 179 [.c (.sl 1 (l.map sPV)), .fn (.func g) fs cs] (.c (.v (.int .i64 (idxP p l)))) := by
  refine VC.told ent_179 Tryz.func179 rfl Tryz.ntmps179 (by simp) (by simp [AV.pureB, AV.pureL, hp, hp']) rfl fun hb => ?_
  simp only [List.mem_cons, List.not_mem_nil, or_false, forall_eq_or_imp, forall_eq, abd_c, pbd_sl, List.length_map] at hb
  have h1 := hb.1.1
  clear hb
  refine walkG ?_
  refine VC.loop (ι := {i : Nat // i ≤ l.length ∧ ∀ j x, j < i → l[j]? = some x → p x = false}) (fun i => [(0, .c (.sl 1 (l.map sPV))), (1, .fn (.func g) fs cs), (7, .c (.v (.int .i64 l.length))), (8, .c (.v (.int .i64 i.1)))]) (fun _ => []) 0 (fun i => l.length - i.1) ⟨0, Nat.zero_le _, by intro j x hj; omega⟩ ?_ ?_
  · simp only [sc_pureL hp, sc_pureL hp', Weak, eq_self, used_is, sc_any, sc_c, sc_pp, sc_ref, sc_row, sc_agg, sc_fn, ScL, some_imp, List.forall_mem_map, go_sem, Int.reduceBEq, Int.reduceLE, Int.reduceLT, Int.reduceNeg, Nat.reduceAdd, Nat.reduceEqDiff, Nat.reduceLT, Nat.reduceLeDiff, Nat.reduceMul, Nat.reduceSub, reduceCtorEq, ↓reduceIte]
    all_goals rfl
  rintro ⟨i, hi, ht⟩
  refine walkG ?_
  refine VC.cond (by rfl) (by trivial) (fun hc => ?_) (fun hc => ?_)
  · simp only [decide_eq_true_eq] at hc
    obtain ⟨x, hx⟩ : ∃ x, l[i]? = some x := ⟨l[i]'(by omega), List.getElem?_eq_getElem _⟩
    have hw : IntKind.i64.wrap ((i : Int) + 1) = (i : Int) + 1 := wrap64_id (by omega) (by omega)
    have hkx := hk x (List.mem_of_getElem? hx)
    (repeat (first | refine pass ?_ | refine VC.region (by rfl) (by rfl) ?_ | (refine AO.step fun K hK => ?_; simp only [List.getElem?_map, hx, sPV, go_sem, Int.reduceBEq, Int.reduceLE, Int.reduceLT, Int.reduceNeg, Nat.reduceAdd, Nat.reduceEqDiff, Nat.reduceLT, Nat.reduceLeDiff, Nat.reduceMul, Nat.reduceSub, reduceCtorEq, ↓reduceIte]; (first | refine gsel_skip ?_ | refine gsel_go ?_ | skip); (first | refine hK _ _ _ ?_ | refine ⟨by first | omega | exact ⟨_, rfl, rfl⟩ | exact fun _ => ⟨_, rfl, rfl⟩ | (intro h; simp only [List.getElem?_map, hx, sPV, h, true_and]; omega) | (clear hK; intro h; simp_all <;> omega), hK _ _ _ ?_⟩); clear hK K) | refine VC.draw mixP (by rfl) (by rfl) ?_ | refine ⟨okd_of (by kernel_rfl), ?_⟩ | refine BQ.other (by decide) ?_ | refine VC.seq ?_ | refine AO.nil ?_ | refine VC.block ?_))
    ((refine AO.step fun K hK => ?_; simp only [go_sem, Int.reduceBEq, Int.reduceLE, Int.reduceLT, Int.reduceNeg, Nat.reduceAdd, Nat.reduceEqDiff, Nat.reduceLT, Nat.reduceLeDiff, Nat.reduceMul, Nat.reduceSub, reduceCtorEq, ↓reduceIte, sPV, hp, hp', pureL_app, pureL_c, List.append_assoc]; (first | refine gsel_go ?_ | skip)); refine .inl ⟨_, hkx, hK _ _ _ ?_⟩; clear hK K)
    refine walkG ?_
    refine VC.cond (by rfl) (by trivial) (fun hpx => ?_) (fun hpx => ?_)
    · have hr := idxP_at hx hpx ht
      refine walkG ?_
      refine ⟨by first | exact .inr rfl | exact .inl rfl, ?_⟩; rw [Tryz.results179]; simp only [resOk, resV, go_sem, Int.reduceBEq, Int.reduceLE, Int.reduceLT, Int.reduceNeg, Nat.reduceAdd, Nat.reduceEqDiff, Nat.reduceLT, Nat.reduceLeDiff, Nat.reduceMul, Nat.reduceSub, reduceCtorEq, ↓reduceIte]
      rw [hr]
      exact .c _
    · refine walkGF (hw) ?_
      refine .next ⟨i + 1, by omega, fun j y hj hy => ?_⟩ ?_ (by simp only []; omega)
      · rcases Nat.lt_or_ge j i with h | h
        · exact ht j y h hy
        · obtain rfl : j = i := by omega
          rw [hx] at hy
          obtain rfl := Option.some.inj hy
          exact hpx
      simp only [sc_pureL hp, sc_pureL hp', Weak, eq_self, used_is, sc_any, sc_c, sc_pp, sc_ref, sc_row, sc_agg, sc_fn, ScL, some_imp, List.forall_mem_map, go_sem, Int.reduceBEq, Int.reduceLE, Int.reduceLT, Int.reduceNeg, Nat.reduceAdd, Nat.reduceEqDiff, Nat.reduceLT, Nat.reduceLeDiff, Nat.reduceMul, Nat.reduceSub, reduceCtorEq, ↓reduceIte]
      exact cI (by omega)
  · simp only [decide_eq_false_iff_not] at hc
    obtain rfl : i = l.length := by omega
    have hr := idxP_none ht
    refine walkG ?_
    refine ⟨by first | exact .inr rfl | exact .inl rfl, ?_⟩; rw [Tryz.results179]; simp only [resOk, resV, go_sem, Int.reduceBEq, Int.reduceLE, Int.reduceLT, Int.reduceNeg, Nat.reduceAdd, Nat.reduceEqDiff, Nat.reduceLT, Nat.reduceLeDiff, Nat.reduceMul, Nat.reduceSub, reduceCtorEq, ↓reduceIte]
    rw [hr]
    exact .c _
set_option maxRecDepth 100000 in
set_option maxHeartbeats 400000 in
theorem cnfS_told {g : FuncId} {fs cs : List AV} (hp : AV.pureL fs = true) (hp' : AV.pureL cs = true) (l : List (List UInt8)) (p : List UInt8 → Bool) (hk : ∀ x ∈ l, Told Tryz.prog g (fs ++ ([.c (.v (.string (str x)))] ++ cs)) (.c (.v (.bool (p x))))) :
    Told Tryz.prog 133 [.c (.sl 1 (l.map sPV)), .fn (.func g) fs cs] (.c (.v (.bool (l.any p)))) := by
  have hi := ixfS_told hp hp' l p hk
  refine VC.told ent_133 Tryz.func133 rfl Tryz.ntmps133 (by simp) (by simp [AV.pureB, AV.pureL, hp, hp']) rfl fun hb => ?_
  clear hb
  refine walkG ?_
  refine walkCF (And.intro hp hp') (hi) ?_
  refine walkG ?_
  refine ⟨by first | exact .inr rfl | exact .inl rfl, ?_⟩; rw [Tryz.results133]; simp only [resOk, resV, go_sem, Int.reduceBEq, Int.reduceLE, Int.reduceLT, Int.reduceNeg, Nat.reduceAdd, Nat.reduceEqDiff, Nat.reduceLT, Nat.reduceLeDiff, Nat.reduceMul, Nat.reduceSub, reduceCtorEq, ↓reduceIte]
  exact frz_c (by rw [idxP_any])

theorem vbare_eq (k n b : Int) (s : List UInt8) (m : Nat) (ks : List (List UInt8)) : vbare k n b s m ks =
    (!(if (k == 2 || k == 3 || k == 4 || k == 10 || k == 13) = true then false else (n != 0)) && (!(if (k == 5 || k == 6) = true then false else (b != 0)) && (!(if (k == 7 || k == 8 || k == 14) = true then false else decide ((s.length : Int) > 0)) &&
    (!(if (k == 9 || k == 11 || k == 12 || k == 13) = true then false else decide ((m : Int) > 0)) && !(if (k == 12) = true then false else decide ((ks.length : Int) > 0)))))) := by
  have e1 : ∀ {α : Type} (l : List α), l.isEmpty = !decide ((l.length : Int) > 0) := fun l => by
    cases l with
    | nil => rfl
    | cons x l => simp
  have e2 : (m == 0) = !decide ((m : Int) > 0) := by cases m <;> simp
  unfold vbare
  rw [e1 s, e1 ks, e2]
  congr 1
  · cases (k == 2 || k == 3 || k == 4 || k == 10 || k == 13) <;> simp [bne]
  congr 1
  · cases (k == 5 || k == 6) <;> simp [bne]
  congr 1
  · cases (k == 7 || k == 8 || k == 14) <;> simp
  congr 1
  · cases (k == 9 || k == 11 || k == 12 || k == 13) <;> simp
  · cases (k == 12) <;> simp
set_option maxRecDepth 100000 in
set_option maxHeartbeats 1600000 in
theorem vbare_told (k n b : Int) (s : List UInt8) (xs : List VT) (ks : List (List UInt8)) : Told Tryz.prog 89 [(VT.mk k n b s xs ks).av] (.c (.v (.bool (vbare k n b s xs.length ks)))) := by
  obtain ⟨V, hV⟩ : ∃ V, V = vbare k n b s xs.length ks := ⟨_, rfl⟩
  rw [← hV]
  rw [vbare_eq] at hV
  rw [VT.av_eq, vcells_mk]
  refine VC.told ent_89 Tryz.func89 rfl Tryz.ntmps89 (by simp) (by first | rfl | simp [AV.pureB, AV.pureL, pureL_c, pures]) (by first | rfl | simp [AV.pureB, AV.pureL, pureL_c, pures]) fun hb => ?_
  clear hb
  refine walkGF (@bytePV_len) ?_
  obtain ⟨p1, hp1⟩ : ∃ p : Bool, p = (n != 0) := ⟨_, rfl⟩
  obtain ⟨p2, hp2⟩ : ∃ p : Bool, p = (b != 0) := ⟨_, rfl⟩
  obtain ⟨p3, hp3⟩ : ∃ p : Bool, p = decide ((s.length : Int) > 0) := ⟨_, rfl⟩
  obtain ⟨p4, hp4⟩ : ∃ p : Bool, p = decide ((xs.length : Int) > 0) := ⟨_, rfl⟩
  obtain ⟨p5, hp5⟩ : ∃ p : Bool, p = decide ((ks.length : Int) > 0) := ⟨_, rfl⟩
  rw [← hp1, ← hp2, ← hp3, ← hp4, ← hp5] at hV ⊢
  clear hp1 hp2 hp3 hp4 hp5
  rcases (by omega : k = 2 ∨ k = 3 ∨ k = 4 ∨ k = 5 ∨ k = 6 ∨ k = 7 ∨ k = 8 ∨ k = 9 ∨ k = 10 ∨ k = 11 ∨ k = 12 ∨ k = 13 ∨ k = 14 ∨ (k ≠ 2 ∧ k ≠ 3 ∧ k ≠ 4 ∧ k ≠ 5 ∧ k ≠ 6 ∧ k ≠ 7 ∧ k ≠ 8 ∧ k ≠ 9 ∧ k ≠ 10 ∧ k ≠ 11 ∧ k ≠ 12 ∧ k ≠ 13 ∧ k ≠ 14)) with rfl | rfl | rfl | rfl | rfl | rfl | rfl | rfl | rfl | rfl | rfl | rfl | rfl | hne
  rotate_left 13
  · obtain ⟨h2, h3, h4, h5, h6, h7, h8, h9, h10, h11, h12, h13, h14⟩ := hne
    have e2 : (k == 2) = false := by simpa using h2
    have e3 : (k == 3) = false := by simpa using h3
    have e4 : (k == 4) = false := by simpa using h4
    have e5 : (k == 5) = false := by simpa using h5
    have e6 : (k == 6) = false := by simpa using h6
    have e7 : (k == 7) = false := by simpa using h7
    have e8 : (k == 8) = false := by simpa using h8
    have e9 : (k == 9) = false := by simpa using h9
    have e10 : (k == 10) = false := by simpa using h10
    have e11 : (k == 11) = false := by simpa using h11
    have e12 : (k == 12) = false := by simpa using h12
    have e13 : (k == 13) = false := by simpa using h13
    have e14 : (k == 14) = false := by simpa using h14
    simp only [e2, e3, e4, e5, e6, e7, e8, e9, e10, e11, e12, e13, e14, Bool.false_or, Bool.false_eq_true, if_false] at hV
    rw [e2]
    refine walkBF (And.intro e2 (And.intro e3 (And.intro e4 (And.intro e5 (And.intro e6 (And.intro e7 (And.intro e8 (And.intro e9 (And.intro e10 (And.intro e11 (And.intro e12 (And.intro e13 e14)))))))))))) ?_
    refine ⟨by first | exact .inr rfl | exact .inl rfl, ?_⟩; rw [Tryz.results89]; simp only [resOk, resV, go_sem, Int.reduceBEq, Int.reduceLE, Int.reduceLT, Int.reduceNeg, Nat.reduceAdd, Nat.reduceEqDiff, Nat.reduceLT, Nat.reduceLeDiff, Nat.reduceMul, Nat.reduceSub, reduceCtorEq, ↓reduceIte]
    refine frz_c ?_
    rw [hV]
    simp [Bool.and_assoc]
  all_goals
    simp only [Int.reduceBEq, Bool.false_or, Bool.or_false, Bool.true_or, Bool.or_true, Bool.false_eq_true, if_false, if_true, Bool.not_false, Bool.true_and, Bool.and_true] at hV
    refine walkB ?_
    refine ⟨by first | exact .inr rfl | exact .inl rfl, ?_⟩; rw [Tryz.results89]; simp only [resOk, resV, go_sem, Int.reduceBEq, Int.reduceLE, Int.reduceLT, Int.reduceNeg, Nat.reduceAdd, Nat.reduceEqDiff, Nat.reduceLT, Nat.reduceLeDiff, Nat.reduceMul, Nat.reduceSub, reduceCtorEq, ↓reduceIte]
    refine frz_c ?_
    rw [hV]
    try simp [Bool.and_assoc]
set_option maxRecDepth 100000 in
set_option maxHeartbeats 400000 in
theorem key1_told (y : List UInt8) (hl : y.length ≤ 1000000) : Told Tryz.prog 134 [.c (.v (.string (str y)))] (.c (.v (.bool (!keyM y)))) := by
  have hR := uright_told y (by omega)
  have e : (!keyM y) = (decide ((y.length : Int) > 20000) || !isRight y) := by
    unfold keyM
    rw [Bool.not_and]
    congr 1
    rw [← decide_not]
    exact decide_eq_decide.2 (by omega)
  rw [e]
  clear e
  have hbs : bytePV (str y).data.toList = bytePV y := by rw [str_dl]
  refine VC.told ent_134 Tryz.func134 rfl Tryz.ntmps134 (by simp) (by first | rfl | simp [AV.pureB, AV.pureL, pureL_c, pures]) (by first | rfl | simp [AV.pureB, AV.pureL, pureL_c, pures]) fun hb => ?_
  clear hb
  refine walkGF (And.intro @str_size hbs) ?_
  refine walkDF (hbs) (hR) ?_
  refine walkG ?_
  refine ⟨by first | exact .inr rfl | exact .inl rfl, ?_⟩; rw [Tryz.results134]; simp only [resOk, resV, go_sem, Int.reduceBEq, Int.reduceLE, Int.reduceLT, Int.reduceNeg, Nat.reduceAdd, Nat.reduceEqDiff, Nat.reduceLT, Nat.reduceLeDiff, Nat.reduceMul, Nat.reduceSub, reduceCtorEq, ↓reduceIte]
  exact .c _
theorem any_not (ks : List (List UInt8)) : (!ks.any fun y => !keyM y) = ks.all keyM := by
  induction ks with
  | nil => rfl
  | cons y ks ih => simp only [List.any_cons, List.all_cons, Bool.not_or, Bool.not_not, ih]
set_option maxRecDepth 100000 in
set_option maxHeartbeats 400000 in
theorem vkeyed_told (ks : List (List UInt8)) (hk : ∀ y ∈ ks, y.length ≤ 1000000) : Told Tryz.prog 93 [.c (.sl 1 (ks.map sPV))] (.c (.v (.bool (ks.all keyM)))) := by
  have hC := cnfS_told (g := 134) (fs := []) (cs := []) rfl rfl ks (fun y => !keyM y) fun y hy => key1_told y (hk y hy)
  rw [← any_not]
  generalize (ks.any fun y => !keyM y) = B at hC ⊢
  refine VC.told ent_93 Tryz.func93 rfl Tryz.ntmps93 (by simp) (by first | rfl | simp [AV.pureB, AV.pureL, pureL_c, pures]) (by first | rfl | simp [AV.pureB, AV.pureL, pureL_c, pures]) fun hb => ?_
  clear hb
  refine walkG ?_
  refine walkC (hC) ?_
  refine walkG ?_
  refine ⟨by first | exact .inr rfl | exact .inl rfl, ?_⟩; rw [Tryz.results93]; simp only [resOk, resV, go_sem, Int.reduceBEq, Int.reduceLE, Int.reduceLT, Int.reduceNeg, Nat.reduceAdd, Nat.reduceEqDiff, Nat.reduceLT, Nat.reduceLeDiff, Nat.reduceMul, Nat.reduceSub, reduceCtorEq, ↓reduceIte]
  exact .c _
end
end Go.Proofs.YtmooihlndkgdaaaGreatDoor
