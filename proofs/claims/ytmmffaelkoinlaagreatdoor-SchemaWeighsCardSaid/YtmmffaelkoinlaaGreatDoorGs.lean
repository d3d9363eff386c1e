/- How great a tree within a schema is (written by gen_gs.py). -/
import Derived.Test.YtmmffaelkoinlaaGreatDoorAt
import Derived.Test.YtmmffaelkoinlaaGreatDoorJb
namespace Go.Proofs.YtmmffaelkoinlaaGreatDoor
open Go.RowKit
set_option linter.unusedVariables false
set_option linter.unusedSimpArgs false
attribute [local go_sem] opx opE ev okx gcond bnd okO AV.get AV.okb cAV upd_at putd_some putd_none wrs_nil wrs_cons look_nil look_cons st argT_at bpick_and bpick_or bpick_true bpick_false binV binI binS binVOk binOk isShift binSOk unV unVOk loadV loadP cellsA zeroA Blkd.len setE grown moreA moreR moreOk eqRes pv fillA fillE putSeg AV.cellish AV.pureL AV.pureB lentL_is ex_some AV.ren AV.renL renL_c Blkd.ren rho wrM renN lentOk rhoE keepM endOk tyA_2 tyA_3 tyA_4 tyA_5 tyA_6 tyA_7 tyA_8 tyA_9 tyA_10 tyA_11 tyA_12 tyA_13 tyA_14 tyA_15 tyA_16 tyA_17 tyA_18 tyA_19 tyA_21 tyA_22 tyA_23 tyA_24 tyA_28 tyA_29 tyA_30 tyA_31 tyA_32 tyA_34 tyA_35 tyA_36 tyA_37 tyA_38 tyA_42 tyA_47 tyA_48 tyA_49 tyA_50 tyA_51 tyA_81 tyA_85 tyA_89 tyA_90 tyA_91 tyA_98 tyA_110 tyA_111 tyA_112 tyA_113 tyA_114 tyA_119 tyA_130 tyA_160 tyA_163 tyA_165 tyA_171 tyA_181 tyA_185 tyA_187 tyA_191 tyA_192 tyA_193 tyA_194 tyA_195 tyA_197 tyA_198 tyA_200 tyA_201 tyA_202 tyA_205 Option.map_some Option.map_none Option.getD_some Option.getD_none Option.bind_some Option.bind_none List.getElem?_cons_zero List.getElem?_cons_succ List.getElem?_nil List.getElem?_toArray List.length_cons List.length_nil List.length_map List.forall_mem_map List.map_cons List.map_nil List.drop_zero List.drop_succ_cons List.drop_nil List.take_zero List.take_succ_cons List.take_nil List.mem_cons List.not_mem_nil or_false forall_eq_or_imp forall_eq List.set_cons_zero List.set_cons_succ List.cons_append List.nil_append List.append_nil List.foldl_cons List.foldl_nil List.replicate_succ List.replicate_zero List.all_cons List.all_nil if_true if_false Bool.false_eq_true ne_eq not_false_eq_true not_true_eq_false true_and and_true and_self true_implies imp_self implies_true forall_const beq_self_eq_true Bool.and_true Bool.true_and Bool.and_false Bool.false_and Bool.or_true Bool.true_or Bool.or_false Bool.false_or Bool.not_true Bool.not_false Bool.not_eq_eq_eq_not intKindOf Value.oneCell' Int.toNat_natCast beq_true beq_false Bool.not_eq_true false_implies false_or true_or or_true Nat.zero_add Nat.add_zero decide_true decide_false Int.cast_ofNat_Int Int.toNat_zero Int.toNat_one eq_self

/-- The keys' part of a tree's bulk; none: one is too long. -/
def bkeys5 : Nat → List (List UInt8) → Option Nat
  | n, [] => some n
  | n, y :: ys => if n ≤ 2500 then (if 2500 < y.length then none else bkeys5 (n + 1 + y.length) ys) else some n
mutual
def tbulk5 (d : Nat) : JT → Nat
  | .mk k n s ks xs => if 60 < d ∨ 2500 < s.length ∨ 2500 < ks.length ∨ 2500 < xs.length then 2501 else match bkeys5 (1 + s.length) ks with | none => 2501 | some n => bitems5 d n xs
def bitems5 (d : Nat) : Nat → List JT → Nat
  | n, [] => n
  | n, x :: xs => if n ≤ 2500 then bitems5 d (n + tbulk5 (d + 1) x) xs else n
end
theorem bkeys5_le : ∀ (ys : List (List UInt8)) (n m : Nat), n ≤ 5001 → bkeys5 n ys = some m → m ≤ 5001
  | [], n, m, h, e => by simp [bkeys5] at e; omega
  | y :: ys, n, m, h, e => by
    rw [bkeys5] at e
    split at e
    · split at e
      · simp at e
      · exact bkeys5_le ys _ m (by omega) e
    · simp at e; omega
mutual
theorem tbulk5_le (d : Nat) : ∀ (t : JT), tbulk5 d t ≤ 5001 + 2501 * (61 - d)
  | .mk k n s ks xs => by
    rw [tbulk5]
    split
    · omega
    · rename_i h
      split
      · omega
      · rename_i m hm
        exact bitems5_le d xs m (by have := bkeys5_le ks _ _ (by omega) hm; omega)
theorem bitems5_le (d : Nat) : ∀ (xs : List JT) (n : Nat), n ≤ 5001 + 2501 * (61 - d) → bitems5 d n xs ≤ 5001 + 2501 * (61 - d)
  | [], n, h => by rw [bitems5]; exact h
  | x :: xs, n, h => by
    rw [bitems5]
    split
    · have := tbulk5_le (d + 1) x
      by_cases hd : 60 < d
      · have h2 : tbulk5 (d + 1) x = 2501 := by
          cases x
          rw [tbulk5, if_pos (by omega)]
        exact bitems5_le d xs _ (by omega)
      · exact bitems5_le d xs _ (by omega)
    · exact h
end
theorem bitems5_ge (d : Nat) : ∀ (xs : List JT) (n : Nat), n ≤ bitems5 d n xs
  | [], n => by rw [bitems5]; exact Nat.le_refl _
  | x :: xs, n => by
    rw [bitems5]
    split
    · exact Nat.le_trans (Nat.le_add_right _ _) (bitems5_ge d xs _)
    · exact Nat.le_refl _
mutual
theorem tbulk5_deep (d : Nat) : ∀ (t : JT), tbulk5 d t ≤ 2500 → tdeep t + d ≤ 61
  | .mk k n s ks xs => fun h => by
    rw [tbulk5] at h
    split at h
    · omega
    · rename_i hd
      split at h
      · omega
      · rw [tdeep]
        split
        · exact bitems5_deep d xs _ 1 (by omega) h
        · omega
theorem bitems5_deep (d : Nat) : ∀ (xs : List JT) (n m : Nat), m + d ≤ 61 → bitems5 d n xs ≤ 2500 → tdeeps m xs + d ≤ 61
  | [], n, m, hm, h => by rw [tdeeps]; exact hm
  | x :: xs, n, m, hm, h => by
    rw [bitems5] at h
    split at h
    · have h1 := bitems5_ge d xs (n + tbulk5 (d + 1) x)
      have h2 := tbulk5_deep (d + 1) x (by omega)
      rw [tdeeps]
      exact bitems5_deep d xs _ _ (by omega) h
    · omega
end
theorem bkeys5_step {ks : List (List UInt8)} {i n : Nat} {y : List UInt8} (hy : ks[i]? = some y) (hn : n ≤ 2500) (hl : y.length ≤ 2500) : bkeys5 n (ks.drop i) = bkeys5 (n + 1 + y.length) (ks.drop (i + 1)) := by
  obtain ⟨hlt, rfl⟩ := List.getElem?_eq_some_iff.1 hy
  rw [List.drop_eq_getElem_cons hlt, bkeys5, if_pos hn, if_neg (by omega)]
theorem bkeys5_none {ks : List (List UInt8)} {i n : Nat} {y : List UInt8} (hy : ks[i]? = some y) (hn : n ≤ 2500) (hl : 2500 < y.length) : bkeys5 n (ks.drop i) = none := by
  obtain ⟨hlt, rfl⟩ := List.getElem?_eq_some_iff.1 hy
  rw [List.drop_eq_getElem_cons hlt, bkeys5, if_pos hn, if_pos hl]
theorem bkeys5_end {ks : List (List UInt8)} {i n : Nat} (h : ¬ (i < ks.length ∧ n ≤ 2500)) : bkeys5 n (ks.drop i) = some n := by
  by_cases hlt : i < ks.length
  · rw [List.drop_eq_getElem_cons hlt, bkeys5, if_neg (by omega)]
  · rw [List.drop_of_length_le (by omega), bkeys5]
theorem bitems5_step {d : Nat} {xs : List JT} {i n : Nat} {x : JT} (hx : xs[i]? = some x) (hn : n ≤ 2500) : bitems5 d n (xs.drop i) = bitems5 d (n + tbulk5 (d + 1) x) (xs.drop (i + 1)) := by
  obtain ⟨hlt, rfl⟩ := List.getElem?_eq_some_iff.1 hx
  rw [List.drop_eq_getElem_cons hlt, bitems5, if_pos hn]
theorem bitems5_end {d : Nat} {xs : List JT} {i n : Nat} (h : ¬ (i < xs.length ∧ n ≤ 2500)) : bitems5 d n (xs.drop i) = n := by
  by_cases hlt : i < xs.length
  · rw [List.drop_eq_getElem_cons hlt, bitems5, if_neg (by omega)]
  · rw [List.drop_of_length_le (by omega), bitems5]
set_option maxRecDepth 100000 in
set_option maxHeartbeats 800000 in
theorem bulk_told5 : ∀ (m : Nat) (t : JT), SizeOf.sizeOf t ≤ m → ∀ (d : Nat) (z : Int), d ≤ 61 → z = (d : Int) → Told Tryz.prog 57 [t.av, .c (.v (.int .i64 2500)), .c (.v (.int .i64 z))] (.c (.v (.int .i64 (tbulk5 d t)))) := by
  intro m
  induction m with
  | zero => intro t ht; cases t; simp at ht
  | succ m ih =>
  intro t ht d z hd hz
  cases t with
  | mk k n s ks xs =>
  have hbl := tbulk5_le d (.mk k n s ks xs)
  have hbi := bitems5_le d xs
  refine VC.told ent_57 Tryz.func57 rfl Tryz.ntmps57 (by simp) rfl rfl fun hb => ?_
  simp only [JT.av, cells_mk, List.map_cons, List.map_nil, abd_agg, abd_c, pbd_v, pbd_sl, List.mem_cons, List.not_mem_nil, or_false, forall_eq_or_imp, forall_eq, true_and, List.length_map] at hb ⊢
  clear hb
  have hw21 : IntKind.i64.wrap (2500 + 1) = 2501 := by rfl
  rw [tbulk5] at hbl ⊢
  refine walkGF (@str_size) ?_
  refine VC.cond (by rfl) (by trivial) (fun hc => ?_) (fun hc => ?_)
  · have hcc : 60 < d ∨ 2500 < s.length ∨ 2500 < ks.length ∨ 2500 < xs.length := by
      simp at hc
      omega
    rw [if_pos hcc]
    refine walkGF (hw21) ?_
    refine ⟨.inr rfl, ?_⟩
    rw [Tryz.results57]
    simp only [resOk, resV, go_sem, Int.reduceBEq, Int.reduceLE, Int.reduceLT, Int.reduceNeg, Nat.reduceAdd, Nat.reduceEqDiff, Nat.reduceLT, Nat.reduceLeDiff, Nat.reduceMul, Nat.reduceSub, reduceCtorEq, ↓reduceIte]
    exact .c _
  · have hcc : ¬ (60 < d ∨ 2500 < s.length ∨ 2500 < ks.length ∨ 2500 < xs.length) := by
      simp at hc
      omega
    rw [if_neg hcc] at hbl ⊢
    clear hc
    obtain ⟨V, hV⟩ : ∃ V, V = bkeys5 (1 + s.length) ks := ⟨_, rfl⟩
    rw [← hV] at hbl ⊢
    have hw1 : IntKind.i64.wrap (1 + (s.length : Int)) = 1 + (s.length : Int) := wrap64_id (by omega) (by omega)
    refine walkGF (And.intro @cells_mk (And.intro @str_size hw1)) ?_
    refine VC.loop (ι := {p : Nat × Nat // p.1 ≤ ks.length ∧ p.2 ≤ 5001 ∧ bkeys5 p.2 (ks.drop p.1) = V}) (fun p => [(1, .c (.v (.int .i64 2500))), (2, .c (.v (.int .i64 z))), (3, .ref 0 1 0 0), (7, .c (.v (.int .i64 p.1.2))), (8, .c (.v (.int .i64 p.1.1)))])
      (fun _ => [(0, ⟨false, 49, 5, [(JT.mk k n s ks xs).cells.map .c]⟩)]) 8 (fun p => ks.length - p.1.1) ⟨(0, 1 + s.length), Nat.zero_le _, by simp only []; omega, by simpa using hV.symm⟩ ?_ ?_
    · simp only [cells_mk, Weak, eq_self, used_is, sc_any, sc_c, sc_pp, sc_ref, sc_row, sc_agg, sc_fn, ScL, some_imp, List.forall_mem_map, go_sem, Int.reduceBEq, Int.reduceLE, Int.reduceLT, Int.reduceNeg, Nat.reduceAdd, Nat.reduceEqDiff, Nat.reduceLT, Nat.reduceLeDiff, Nat.reduceMul, Nat.reduceSub, reduceCtorEq, ↓reduceIte]
      all_goals first | rfl | exact cI (by omega)
    rintro ⟨⟨i, b⟩, hi, hb, hbk⟩
    simp only [] at hi hb hbk ⊢
    refine walkGF (@cells_mk) ?_
    refine VC.cond (by rfl) (by trivial) (fun hc => ?_) (fun hc => ?_)
    · have hcc : i < ks.length ∧ b ≤ 2500 := by
        simp at hc
        omega
      clear hc
      obtain ⟨y, hy⟩ : ∃ y, ks[i]? = some y := ⟨ks[i], List.getElem?_eq_getElem hcc.1⟩
      (repeat (first | refine pass ?_ | refine VC.region (by rfl) (by rfl) ?_ | (refine AO.step fun K hK => ?_; simp only [cells_mk, List.getElem?_map, hy, sPV, str_size, go_sem, Int.reduceBEq, Int.reduceLE, Int.reduceLT, Int.reduceNeg, Nat.reduceAdd, Nat.reduceEqDiff, Nat.reduceLT, Nat.reduceLeDiff, Nat.reduceMul, Nat.reduceSub, reduceCtorEq, ↓reduceIte]; (first | refine gsel_skip ?_ | refine gsel_go ?_ | skip); (first | refine hK _ _ _ ?_ | refine ⟨by first | omega | exact ⟨_, rfl, rfl⟩ | exact fun _ => ⟨_, rfl, rfl⟩ | (intro h; simp only [cells_mk, List.getElem?_map, hy, sPV, str_size, h, true_and]; omega) | (clear hK; intro h; simp_all <;> omega), hK _ _ _ ?_⟩); clear hK K) | refine VC.draw mixP (by rfl) (by rfl) ?_ | refine ⟨okd_of (by kernel_rfl), ?_⟩ | refine BQ.other (by decide) ?_ | refine VC.seq ?_ | refine AO.nil ?_ | refine VC.block ?_))
      refine VC.cond (by rfl) (by trivial) (fun hc => ?_) (fun hc => ?_)
      · have hl : 2500 < y.length := by
          simp at hc
          omega
        obtain rfl : V = none := hbk.symm.trans (bkeys5_none hy hcc.2 hl)
        refine walkGF (hw21) ?_
        refine ⟨.inr rfl, ?_⟩
        rw [Tryz.results57]
        simp only [resOk, resV, go_sem, Int.reduceBEq, Int.reduceLE, Int.reduceLT, Int.reduceNeg, Nat.reduceAdd, Nat.reduceEqDiff, Nat.reduceLT, Nat.reduceLeDiff, Nat.reduceMul, Nat.reduceSub, reduceCtorEq, ↓reduceIte]
        exact .c _
      · have hl : y.length ≤ 2500 := by
          simp at hc
          omega
        have hw2 : IntKind.i64.wrap ((b : Int) + 1) = (b : Int) + 1 := wrap64_id (by omega) (by omega)
        have hw3 : IntKind.i64.wrap ((b : Int) + 1 + (y.length : Int)) = (b : Int) + 1 + (y.length : Int) := wrap64_id (by omega) (by omega)
        have hw4 : IntKind.i64.wrap ((i : Int) + 1) = (i : Int) + 1 := wrap64_id (by omega) (by omega)
        (repeat (first | refine pass ?_ | refine VC.region (by rfl) (by rfl) ?_ | (refine AO.step fun K hK => ?_; simp only [cells_mk, List.getElem?_map, hy, sPV, str_size, hw2, hw3, hw4, go_sem, Int.reduceBEq, Int.reduceLE, Int.reduceLT, Int.reduceNeg, Nat.reduceAdd, Nat.reduceEqDiff, Nat.reduceLT, Nat.reduceLeDiff, Nat.reduceMul, Nat.reduceSub, reduceCtorEq, ↓reduceIte]; (first | refine gsel_skip ?_ | refine gsel_go ?_ | skip); (first | refine hK _ _ _ ?_ | refine ⟨by first | omega | exact ⟨_, rfl, rfl⟩ | exact fun _ => ⟨_, rfl, rfl⟩ | (intro h; simp only [cells_mk, List.getElem?_map, hy, sPV, str_size, hw2, hw3, hw4, h, true_and]; omega) | (clear hK; intro h; simp_all <;> omega), hK _ _ _ ?_⟩); clear hK K) | refine VC.draw mixP (by rfl) (by rfl) ?_ | refine ⟨okd_of (by kernel_rfl), ?_⟩ | refine BQ.other (by decide) ?_ | refine VC.seq ?_ | refine AO.nil ?_ | refine VC.block ?_))
        refine .next ⟨(i + 1, b + 1 + y.length), by simp only []; omega, by simp only []; omega, by simp only []; rw [← hbk, bkeys5_step hy hcc.2 hl]⟩ ?_ (by simp only []; omega)
        simp only [cells_mk, Weak, eq_self, used_is, sc_any, sc_c, sc_pp, sc_ref, sc_row, sc_agg, sc_fn, ScL, some_imp, List.forall_mem_map, go_sem, Int.reduceBEq, Int.reduceLE, Int.reduceLT, Int.reduceNeg, Nat.reduceAdd, Nat.reduceEqDiff, Nat.reduceLT, Nat.reduceLeDiff, Nat.reduceMul, Nat.reduceSub, reduceCtorEq, ↓reduceIte]
        exact ⟨cI (by omega), cI (by omega)⟩
    · have hcc : ¬ (i < ks.length ∧ b ≤ 2500) := by
        simp at hc
        omega
      clear hc
      obtain rfl : V = some b := hbk.symm.trans (bkeys5_end hcc)
      simp only [] at hbl ⊢
      obtain ⟨V, hV2⟩ : ∃ V, V = bitems5 d b xs := ⟨_, rfl⟩
      rw [← hV2] at hbl ⊢
      refine walkG ?_
      refine VC.loop (ι := {p : Nat × Nat // p.1 ≤ xs.length ∧ p.2 ≤ 5001 + 2501 * (61 - d) ∧ bitems5 d p.2 (xs.drop p.1) = V}) (fun p => [(1, .c (.v (.int .i64 2500))), (2, .c (.v (.int .i64 z))), (3, .ref 0 1 0 0), (7, .c (.v (.int .i64 p.1.2))), (9, .c (.v (.int .i64 p.1.1)))])
        (fun _ => [(0, ⟨false, 49, 5, [(JT.mk k n s ks xs).cells.map .c]⟩)]) 8 (fun p => xs.length - p.1.1) ⟨(0, b), Nat.zero_le _, by simp only []; omega, by simpa using hV2.symm⟩ ?_ ?_
      · simp only [cells_mk, Weak, eq_self, used_is, sc_any, sc_c, sc_pp, sc_ref, sc_row, sc_agg, sc_fn, ScL, some_imp, List.forall_mem_map, go_sem, Int.reduceBEq, Int.reduceLE, Int.reduceLT, Int.reduceNeg, Nat.reduceAdd, Nat.reduceEqDiff, Nat.reduceLT, Nat.reduceLeDiff, Nat.reduceMul, Nat.reduceSub, reduceCtorEq, ↓reduceIte]
        all_goals rfl
      clear hi hcc hbk
      rintro ⟨⟨i, c⟩, hi, hcb, hbt⟩
      simp only [] at hi hcb hbt ⊢
      refine walkGF (@cells_mk) ?_
      refine VC.cond (by rfl) (by trivial) (fun hc => ?_) (fun hc => ?_)
      · have hcc : i < xs.length ∧ c ≤ 2500 := by
          simp at hc
          omega
        clear hc
        obtain ⟨x, hx⟩ : ∃ x, xs[i]? = some x := ⟨xs[i], List.getElem?_eq_getElem hcc.1⟩
        have hxm := List.mem_of_getElem? hx
        have hsz : SizeOf.sizeOf x ≤ m := by
          have h1 := List.sizeOf_lt_of_mem hxm
          simp at ht
          omega
        have hcall := ih x hsz (d + 1) (z + 1) (by omega) (by omega)
        have hxb := tbulk5_le (d + 1) x
        have hw1 : IntKind.i64.wrap (z + 1) = z + 1 := wrap64_id (by omega) (by omega)
        have hw2 : IntKind.i64.wrap ((c : Int) + (tbulk5 (d + 1) x : Int)) = (c : Int) + (tbulk5 (d + 1) x : Int) := wrap64_id (by omega) (by omega)
        have hw4 : IntKind.i64.wrap ((i : Int) + 1) = (i : Int) + 1 := wrap64_id (by omega) (by omega)
        (repeat (first | refine pass ?_ | refine VC.region (by rfl) (by rfl) ?_ | (refine AO.step fun K hK => ?_; simp only [cells_mk, List.getElem?_map, hx, len_cells, take_cells, take_cellsC, hw1, go_sem, Int.reduceBEq, Int.reduceLE, Int.reduceLT, Int.reduceNeg, Nat.reduceAdd, Nat.reduceEqDiff, Nat.reduceLT, Nat.reduceLeDiff, Nat.reduceMul, Nat.reduceSub, reduceCtorEq, ↓reduceIte]; (first | refine gsel_skip ?_ | refine gsel_go ?_ | skip); (first | refine hK _ _ _ ?_ | refine ⟨by first | omega | exact ⟨_, rfl, rfl⟩ | exact fun _ => ⟨_, rfl, rfl⟩ | (intro h; simp only [cells_mk, List.getElem?_map, hx, len_cells, take_cells, take_cellsC, hw1, h, true_and]; omega) | (clear hK; intro h; simp_all <;> omega), hK _ _ _ ?_⟩); clear hK K) | refine VC.draw mixP (by rfl) (by rfl) ?_ | refine ⟨okd_of (by kernel_rfl), ?_⟩ | refine BQ.other (by decide) ?_ | refine VC.seq ?_ | refine AO.nil ?_ | refine VC.block ?_))
        (refine AO.step fun K hK => ?_; simp only [go_sem, Int.reduceBEq, Int.reduceLE, Int.reduceLT, Int.reduceNeg, Nat.reduceAdd, Nat.reduceEqDiff, Nat.reduceLT, Nat.reduceLeDiff, Nat.reduceMul, Nat.reduceSub, reduceCtorEq, ↓reduceIte, pureL_c]; (first | refine gsel_go ?_ | skip))
        refine .inl ⟨_, hcall, hK _ _ _ ?_⟩
        clear hK K
        refine walkGF (And.intro hw2 hw4) ?_
        refine .next ⟨(i + 1, c + tbulk5 (d + 1) x), by simp only []; omega, by simp only []; omega, by simp only []; rw [← hbt, bitems5_step hx hcc.2]⟩ ?_ (by simp only []; omega)
        simp only [cells_mk, Weak, eq_self, used_is, sc_any, sc_c, sc_pp, sc_ref, sc_row, sc_agg, sc_fn, ScL, some_imp, List.forall_mem_map, go_sem, Int.reduceBEq, Int.reduceLE, Int.reduceLT, Int.reduceNeg, Nat.reduceAdd, Nat.reduceEqDiff, Nat.reduceLT, Nat.reduceLeDiff, Nat.reduceMul, Nat.reduceSub, reduceCtorEq, ↓reduceIte]
        exact ⟨cI (by omega), cI (by omega)⟩
      · have hcc : ¬ (i < xs.length ∧ c ≤ 2500) := by
          simp at hc
          omega
        obtain rfl : V = c := hbt.symm.trans (bitems5_end hcc)
        refine walkG ?_
        refine ⟨.inr rfl, ?_⟩
        rw [Tryz.results57]
        simp only [resOk, resV, go_sem, Int.reduceBEq, Int.reduceLE, Int.reduceLT, Int.reduceNeg, Nat.reduceAdd, Nat.reduceEqDiff, Nat.reduceLT, Nat.reduceLeDiff, Nat.reduceMul, Nat.reduceSub, reduceCtorEq, ↓reduceIte]
        exact .c _

/-! A tree that is not great is small. -/
theorem bkeys5_len : ∀ (ys : List (List UInt8)) (n m : Nat), bkeys5 n ys = some m → m ≤ 2500 → n + ys.length ≤ m ∧ ∀ y ∈ ys, y.length ≤ 2500
  | [], n, m, h, hm => by rw [bkeys5] at h; obtain rfl := Option.some.inj h; exact ⟨by simp, by simp⟩
  | y :: ys, n, m, h, hm => by
    rw [bkeys5] at h
    split at h
    · split at h
      · simp at h
      · obtain ⟨h1, h2⟩ := bkeys5_len ys _ m h hm
        refine ⟨by simp; omega, fun z hz => ?_⟩
        rcases List.mem_cons.1 hz with rfl | hz
        · omega
        · exact h2 z hz
    · obtain rfl := Option.some.inj h
      omega
mutual
theorem bulk_sm5 (d : Nat) : ∀ t : JT, tbulk5 d t ≤ 2500 → t.sm 2500
  | .mk k n s ks xs => fun h => by
    rw [tbulk5] at h
    split at h
    · omega
    · rename_i h1
      split at h
      · omega
      · rename_i m hm
        have h2 := bitems5_ge d xs m
        obtain ⟨_, h3⟩ := bkeys5_len ks _ m hm (by omega)
        exact ⟨by omega, by omega, h3, by omega, bitems5_sm d m xs h⟩
theorem bitems5_sm (d n : Nat) : ∀ xs : List JT, bitems5 d n xs ≤ 2500 → JT.smL 2500 xs
  | [] => fun _ => trivial
  | x :: xs => fun h => by
    rw [bitems5] at h
    split at h
    · have := bitems5_ge d xs (n + tbulk5 (d + 1) x)
      exact ⟨bulk_sm5 (d + 1) x (by omega), bitems5_sm d _ xs h⟩
    · omega
end

end Go.Proofs.YtmmffaelkoinlaaGreatDoor
