/- slices.Equal, Index of texts; whether trees are alike. -/
import Derived.Test.YtmmffaelkoinlaaGreatDoorAt
namespace Go.Proofs.YtmmffaelkoinlaaGreatDoor
open Go.RowKit
set_option linter.unusedVariables false
set_option linter.unusedSimpArgs false
attribute [local go_sem] opx opE ev okx gcond bnd okO AV.get AV.okb cAV upd_at putd_some putd_none wrs_nil wrs_cons look_nil look_cons st argT_at bpick_and bpick_or bpick_true bpick_false binV binI binS binVOk binOk isShift binSOk unV unVOk loadV loadP cellsA zeroA Blkd.len setE grown moreA moreR moreOk eqRes pv fillA fillE putSeg AV.cellish AV.pureL AV.pureB lentL_is ex_some AV.ren AV.renL renL_c Blkd.ren rho wrM renN lentOk rhoE keepM endOk tyA_2 tyA_3 tyA_4 tyA_5 tyA_6 tyA_7 tyA_8 tyA_9 tyA_10 tyA_11 tyA_12 tyA_13 tyA_14 tyA_15 tyA_16 tyA_17 tyA_18 tyA_19 tyA_21 tyA_22 tyA_23 tyA_24 tyA_28 tyA_29 tyA_30 tyA_31 tyA_32 tyA_34 tyA_35 tyA_36 tyA_37 tyA_38 tyA_42 tyA_47 tyA_48 tyA_49 tyA_50 tyA_51 tyA_81 tyA_85 tyA_89 tyA_90 tyA_91 tyA_98 tyA_110 tyA_111 tyA_112 tyA_113 tyA_114 tyA_119 tyA_130 tyA_160 tyA_163 tyA_165 tyA_171 tyA_181 tyA_185 tyA_187 tyA_191 tyA_192 tyA_193 tyA_194 tyA_195 tyA_197 tyA_198 tyA_200 tyA_201 tyA_202 tyA_205 Option.map_some Option.map_none Option.getD_some Option.getD_none Option.bind_some Option.bind_none List.getElem?_cons_zero List.getElem?_cons_succ List.getElem?_nil List.getElem?_toArray List.length_cons List.length_nil List.length_map List.forall_mem_map List.map_cons List.map_nil List.drop_zero List.drop_succ_cons List.drop_nil List.take_zero List.take_succ_cons List.take_nil List.mem_cons List.not_mem_nil or_false forall_eq_or_imp forall_eq List.set_cons_zero List.set_cons_succ List.cons_append List.nil_append List.append_nil List.foldl_cons List.foldl_nil List.replicate_succ List.replicate_zero List.all_cons List.all_nil if_true if_false Bool.false_eq_true ne_eq not_false_eq_true not_true_eq_false true_and and_true and_self true_implies imp_self implies_true forall_const beq_self_eq_true Bool.and_true Bool.true_and Bool.and_false Bool.false_and Bool.or_true Bool.true_or Bool.or_false Bool.false_or Bool.not_true Bool.not_false Bool.not_eq_eq_eq_not intKindOf Value.oneCell' Int.toNat_natCast beq_true beq_false Bool.not_eq_true false_implies false_or true_or or_true Nat.zero_add Nat.add_zero decide_true decide_false Int.cast_ofNat_Int Int.toNat_zero Int.toNat_one eq_self

/-- What a round's end asks of lists. -/
theorem taken_next {α : Type} [DecidableEq α] {ks ls : List α} {i : Nat} {x y : α} (hx : ks[i]? = some x) (hy : ls[i]? = some y) (ht : ks.take i = ls.take i) : ks.take (i + 1) = ls.take (i + 1) ↔ x = y := by
  rw [List.take_add_one, List.take_add_one, hx, hy, ht]
  simp
set_option maxRecDepth 100000 in
set_option maxHeartbeats 400000 in
theorem sequal_told (ks ls : List (List UInt8)) : Told Tryz.prog 45 [.c (.sl 1 (ks.map sPV)), .c (.sl 1 (ls.map sPV))] (.c (.v (.bool (ks == ls)))) := by
  refine VC.told ent_45 Tryz.func45 rfl Tryz.ntmps45 (by simp) rfl rfl fun hb => ?_
  simp only [abd_c, pbd_sl, List.mem_cons, List.not_mem_nil, or_false, forall_eq_or_imp, forall_eq, List.length_map] at hb
  have h1 := hb.1.1
  have h2 := hb.2.1
  clear hb
  refine walkG ?_
  refine VC.cond (by rfl) (by trivial) (fun hc => ?_) (fun hc => ?_)
  · have hne : (ks == ls) = false := by
      rw [beq_eq_false_iff_ne]
      intro e
      subst e
      simp at hc
    refine walkG ?_
    refine ⟨.inr rfl, ?_⟩
    rw [Tryz.results45, hne]
    simp only [resOk, resV, go_sem, Int.reduceBEq, Int.reduceLE, Int.reduceLT, Int.reduceNeg, Nat.reduceAdd, Nat.reduceEqDiff, Nat.reduceLT, Nat.reduceLeDiff, Nat.reduceMul, Nat.reduceSub, reduceCtorEq, ↓reduceIte]
    exact .c _
  · have hlen : ks.length = ls.length := by
      simp at hc
      omega
    refine walkG ?_
    refine VC.loop (ι := {i : Nat // i ≤ ks.length ∧ ks.take i = ls.take i}) (fun i => [(0, .c (.sl 1 (ks.map sPV))), (1, .c (.sl 1 (ls.map sPV))), (12, .c (.v (.int .i64 ks.length))), (13, .c (.v (.int .i64 i.1)))]) (fun _ => []) 0 (fun i => ks.length - i.1) ⟨0, Nat.zero_le _, rfl⟩ ?_ ?_
    · simp only [Weak, eq_self, used_is, sc_any, sc_c, sc_pp, sc_ref, sc_row, sc_agg, sc_fn, ScL, some_imp, List.forall_mem_map, go_sem, Int.reduceBEq, Int.reduceLE, Int.reduceLT, Int.reduceNeg, Nat.reduceAdd, Nat.reduceEqDiff, Nat.reduceLT, Nat.reduceLeDiff, Nat.reduceMul, Nat.reduceSub, reduceCtorEq, ↓reduceIte]
      all_goals rfl
    rintro ⟨i, hi, ht⟩
    refine walkG ?_
    refine VC.cond (by rfl) (by trivial) (fun hc => ?_) (fun hc => ?_)
    · simp only [decide_eq_true_eq] at hc
      obtain ⟨x, hx⟩ : ∃ x, ks[i]? = some x := ⟨ks[i], List.getElem?_eq_getElem (by omega)⟩
      obtain ⟨y, hy⟩ : ∃ y, ls[i]? = some y := ⟨ls[i], List.getElem?_eq_getElem (by omega)⟩
      have hw : IntKind.i64.wrap ((i : Int) + 1) = (i : Int) + 1 := wrap64_id (by omega) (by omega)
      have htn := taken_next hx hy ht
      (repeat (first | refine pass ?_ | refine VC.region (by rfl) (by rfl) ?_ | (refine AO.step fun K hK => ?_; simp only [List.getElem?_map, hx, hy, sPV, str_toList, go_sem, Int.reduceBEq, Int.reduceLE, Int.reduceLT, Int.reduceNeg, Nat.reduceAdd, Nat.reduceEqDiff, Nat.reduceLT, Nat.reduceLeDiff, Nat.reduceMul, Nat.reduceSub, reduceCtorEq, ↓reduceIte]; (first | refine gsel_skip ?_ | refine gsel_go ?_ | skip); (first | refine hK _ _ _ ?_ | refine ⟨by first | omega | exact ⟨_, rfl, rfl⟩ | exact fun _ => ⟨_, rfl, rfl⟩ | (intro h; simp only [List.getElem?_map, hx, hy, sPV, str_toList, h, true_and]; omega) | (clear hK; intro h; simp_all <;> omega), hK _ _ _ ?_⟩); clear hK K) | refine VC.draw mixP (by rfl) (by rfl) ?_ | refine ⟨okd_of (by kernel_rfl), ?_⟩ | refine BQ.other (by decide) ?_ | refine VC.seq ?_ | refine AO.nil ?_ | refine VC.block ?_))
      refine VC.cond (by rfl) (by trivial) (fun hc2 => ?_) (fun hc2 => ?_)
      · have hne : (ks == ls) = false := by
          rw [beq_eq_false_iff_ne]
          intro e
          subst e
          rw [hx] at hy
          obtain rfl := Option.some.inj hy
          simp at hc2
        refine walkG ?_
        refine ⟨.inr rfl, ?_⟩
        rw [Tryz.results45, hne]
        simp only [resOk, resV, go_sem, Int.reduceBEq, Int.reduceLE, Int.reduceLT, Int.reduceNeg, Nat.reduceAdd, Nat.reduceEqDiff, Nat.reduceLT, Nat.reduceLeDiff, Nat.reduceMul, Nat.reduceSub, reduceCtorEq, ↓reduceIte]
        exact .c _
      · have hxy : x = y := by simpa using hc2
        refine walkGF (hw) ?_
        refine .next ⟨i + 1, by omega, htn.2 hxy⟩ ?_ (by simp only []; omega)
        simp only [Weak, eq_self, used_is, sc_any, sc_c, sc_pp, sc_ref, sc_row, sc_agg, sc_fn, ScL, some_imp, List.forall_mem_map, go_sem, Int.reduceBEq, Int.reduceLE, Int.reduceLT, Int.reduceNeg, Nat.reduceAdd, Nat.reduceEqDiff, Nat.reduceLT, Nat.reduceLeDiff, Nat.reduceMul, Nat.reduceSub, reduceCtorEq, ↓reduceIte]
        exact cI (by omega)
    · simp only [decide_eq_false_iff_not] at hc
      obtain rfl : i = ks.length := by omega
      have heq : (ks == ls) = true := by
        rw [List.take_length, hlen, List.take_length] at ht
        simp [ht]
      refine walkG ?_
      refine ⟨.inr rfl, ?_⟩
      rw [Tryz.results45, heq]
      simp only [resOk, resV, go_sem, Int.reduceBEq, Int.reduceLE, Int.reduceLT, Int.reduceNeg, Nat.reduceAdd, Nat.reduceEqDiff, Nat.reduceLT, Nat.reduceLeDiff, Nat.reduceMul, Nat.reduceSub, reduceCtorEq, ↓reduceIte]
      exact .c _
/-- Are two trees alike? -/
noncomputable def jeq (a b : JT) : Bool := @decide (a = b) (Classical.propDecidable _)
theorem jeq_iff (a b : JT) : jeq a b = true ↔ a = b := by simp [jeq]
theorem jeq_false (a b : JT) : jeq a b = false ↔ a ≠ b := by simp [jeq]
theorem jeq_self (a : JT) : jeq a a = true := (jeq_iff a a).2 rfl
noncomputable def jeqL (a b : List JT) : Bool := @decide (a = b) (Classical.propDecidable _)
theorem jeqL_iff (a b : List JT) : jeqL a b = true ↔ a = b := by simp [jeqL]
theorem jeqL_false (a b : List JT) : jeqL a b = false ↔ a ≠ b := by simp [jeqL]
theorem jeq_mk (k n k' n' : Int) (s s' : List UInt8) (ks ks' : List (List UInt8)) (xs xs' : List JT) : jeq (.mk k n s ks xs) (.mk k' n' s' ks' xs') = ((((k == k' && n == n') && s == s') && ks == ks') && jeqL xs xs') := by
  rw [Bool.eq_iff_iff]
  simp only [jeq_iff, Bool.and_eq_true, beq_iff_eq, jeqL_iff, JT.mk.injEq]
  constructor
  · rintro ⟨rfl, rfl, rfl, rfl, rfl⟩; simp
  · rintro ⟨⟨⟨⟨rfl, rfl⟩, rfl⟩, rfl⟩, rfl⟩; simp
set_option maxRecDepth 100000 in
set_option maxHeartbeats 400000 in
theorem eqfunc_told (xs ys : List JT) (hcall : ∀ x ∈ xs, ∀ y, Told Tryz.prog 46 [x.av, y.av] (.c (.v (.bool (jeq x y))))) :
    Told Tryz.prog 89 [.c (.sl 5 (xs.map JT.cells)), .c (.sl 5 (ys.map JT.cells)), .fn (.func 46) [] []] (.c (.v (.bool (jeqL xs ys)))) := by
  refine VC.told ent_89 Tryz.func89 rfl Tryz.ntmps89 (by simp) rfl rfl fun hb => ?_
  simp only [abd_c, pbd_sl, List.mem_cons, List.not_mem_nil, or_false, forall_eq_or_imp, forall_eq, List.length_map] at hb
  have h1 := hb.1.1
  have h2 := hb.2.1.1
  clear hb
  refine walkG ?_
  refine VC.cond (by rfl) (by trivial) (fun hc => ?_) (fun hc => ?_)
  · have hne : jeqL xs ys = false := by
      rw [jeqL_false]
      intro e
      subst e
      simp at hc
    refine walkG ?_
    refine ⟨.inr rfl, ?_⟩
    rw [Tryz.results89, hne]
    simp only [resOk, resV, go_sem, Int.reduceBEq, Int.reduceLE, Int.reduceLT, Int.reduceNeg, Nat.reduceAdd, Nat.reduceEqDiff, Nat.reduceLT, Nat.reduceLeDiff, Nat.reduceMul, Nat.reduceSub, reduceCtorEq, ↓reduceIte]
    exact .c _
  · have hlen : xs.length = ys.length := by
      simp at hc
      omega
    refine walkG ?_
    refine VC.loop (ι := {i : Nat // i ≤ xs.length ∧ xs.take i = ys.take i}) (fun i => [(1, .c (.sl 5 (ys.map JT.cells))), (2, .fn (.func 46) [] []), (15, .c (.sl 5 (xs.map JT.cells))), (16, .c (.v (.int .i64 xs.length))), (17, .c (.v (.int .i64 i.1)))]) (fun _ => []) 0 (fun i => xs.length - i.1) ⟨0, Nat.zero_le _, rfl⟩ ?_ ?_
    · simp only [Weak, eq_self, used_is, sc_any, sc_c, sc_pp, sc_ref, sc_row, sc_agg, sc_fn, ScL, some_imp, List.forall_mem_map, go_sem, Int.reduceBEq, Int.reduceLE, Int.reduceLT, Int.reduceNeg, Nat.reduceAdd, Nat.reduceEqDiff, Nat.reduceLT, Nat.reduceLeDiff, Nat.reduceMul, Nat.reduceSub, reduceCtorEq, ↓reduceIte]
      all_goals rfl
    rintro ⟨i, hi, ht⟩
    refine walkG ?_
    refine VC.cond (by rfl) (by trivial) (fun hc => ?_) (fun hc => ?_)
    · simp only [decide_eq_true_eq] at hc
      obtain ⟨x, hx⟩ : ∃ x, xs[i]? = some x := ⟨xs[i], List.getElem?_eq_getElem (by omega)⟩
      obtain ⟨y, hy⟩ : ∃ y, ys[i]? = some y := ⟨ys[i], List.getElem?_eq_getElem (by omega)⟩
      have hw : IntKind.i64.wrap ((i : Int) + 1) = (i : Int) + 1 := wrap64_id (by omega) (by omega)
      have hcl := hcall x (List.mem_of_getElem? hx) y
      (repeat (first | refine pass ?_ | refine VC.region (by rfl) (by rfl) ?_ | (refine AO.step fun K hK => ?_; simp only [List.getElem?_map, hx, hy, len_cells, take_cells, take_cellsC, go_sem, Int.reduceBEq, Int.reduceLE, Int.reduceLT, Int.reduceNeg, Nat.reduceAdd, Nat.reduceEqDiff, Nat.reduceLT, Nat.reduceLeDiff, Nat.reduceMul, Nat.reduceSub, reduceCtorEq, ↓reduceIte]; (first | refine gsel_skip ?_ | refine gsel_go ?_ | skip); (first | refine hK _ _ _ ?_ | refine ⟨by first | omega | exact ⟨_, rfl, rfl⟩ | exact fun _ => ⟨_, rfl, rfl⟩ | (intro h; simp only [List.getElem?_map, hx, hy, len_cells, take_cells, take_cellsC, h, true_and]; omega) | (clear hK; intro h; simp_all <;> omega), hK _ _ _ ?_⟩); clear hK K) | refine VC.draw mixP (by rfl) (by rfl) ?_ | refine ⟨okd_of (by kernel_rfl), ?_⟩ | refine BQ.other (by decide) ?_ | refine VC.seq ?_ | refine AO.nil ?_ | refine VC.block ?_))
      (refine AO.step fun K hK => ?_; simp only [go_sem, Int.reduceBEq, Int.reduceLE, Int.reduceLT, Int.reduceNeg, Nat.reduceAdd, Nat.reduceEqDiff, Nat.reduceLT, Nat.reduceLeDiff, Nat.reduceMul, Nat.reduceSub, reduceCtorEq, ↓reduceIte, pureL_c]; (first | refine gsel_go ?_ | skip))
      refine .inl ⟨_, hcl, hK _ _ _ ?_⟩
      clear hK K
      refine walkG ?_
      refine VC.cond (by rfl) (by trivial) (fun hc2 => ?_) (fun hc2 => ?_)
      · have hne : jeqL xs ys = false := by
          rw [jeqL_false]
          intro e
          subst e
          rw [hx] at hy
          obtain rfl := Option.some.inj hy
          rw [jeq_self] at hc2
          simp at hc2
        refine walkG ?_
        refine ⟨.inr rfl, ?_⟩
        rw [Tryz.results89, hne]
        simp only [resOk, resV, go_sem, Int.reduceBEq, Int.reduceLE, Int.reduceLT, Int.reduceNeg, Nat.reduceAdd, Nat.reduceEqDiff, Nat.reduceLT, Nat.reduceLeDiff, Nat.reduceMul, Nat.reduceSub, reduceCtorEq, ↓reduceIte]
        exact .c _
      · have hxy : x = y := by
          rw [← jeq_iff]
          simpa using hc2
        refine walkGF (hw) ?_
        refine .next ⟨i + 1, by omega, ?_⟩ ?_ (by simp only []; omega)
        · rw [List.take_add_one, List.take_add_one, hx, hy, ht, hxy]
        simp only [Weak, eq_self, used_is, sc_any, sc_c, sc_pp, sc_ref, sc_row, sc_agg, sc_fn, ScL, some_imp, List.forall_mem_map, go_sem, Int.reduceBEq, Int.reduceLE, Int.reduceLT, Int.reduceNeg, Nat.reduceAdd, Nat.reduceEqDiff, Nat.reduceLT, Nat.reduceLeDiff, Nat.reduceMul, Nat.reduceSub, reduceCtorEq, ↓reduceIte]
        exact cI (by omega)
    · simp only [decide_eq_false_iff_not] at hc
      obtain rfl : i = xs.length := by omega
      have heq : jeqL xs ys = true := by
        rw [List.take_length, hlen, List.take_length] at ht
        rw [jeqL_iff, ht]
      refine walkG ?_
      refine ⟨.inr rfl, ?_⟩
      rw [Tryz.results89, heq]
      simp only [resOk, resV, go_sem, Int.reduceBEq, Int.reduceLE, Int.reduceLT, Int.reduceNeg, Nat.reduceAdd, Nat.reduceEqDiff, Nat.reduceLT, Nat.reduceLeDiff, Nat.reduceMul, Nat.reduceSub, reduceCtorEq, ↓reduceIte]
      exact .c _
set_option maxRecDepth 100000 in
set_option maxHeartbeats 400000 in
theorem same_told : ∀ (m : Nat) (a b : JT), SizeOf.sizeOf a ≤ m → Told Tryz.prog 46 [a.av, b.av] (.c (.v (.bool (jeq a b)))) := by
  intro m
  induction m with
  | zero => intro a b ha; cases a; simp at ha
  | succ m ih =>
  intro a b ha
  cases a with
  | mk k n s ks xs =>
  cases b with
  | mk k' n' s' ks' xs' =>
  refine VC.told ent_46 Tryz.func46 rfl Tryz.ntmps46 (by simp) rfl rfl fun hb => ?_
  clear hb
  simp only [JT.av, cells_mk, List.map_cons, List.map_nil]
  have hE := eqfunc_told xs xs' fun x hx y => ih x y (by
    have h1 := List.sizeOf_lt_of_mem hx
    simp at ha
    omega)
  refine walkGF (@str_toList) ?_
  (refine AO.step fun K hK => ?_; simp only [go_sem, Int.reduceBEq, Int.reduceLE, Int.reduceLT, Int.reduceNeg, Nat.reduceAdd, Nat.reduceEqDiff, Nat.reduceLT, Nat.reduceLeDiff, Nat.reduceMul, Nat.reduceSub, reduceCtorEq, ↓reduceIte]; (first | refine gsel_go ?_ | skip))
  refine .inl ⟨_, fun _ => sequal_told ks ks', hK _ _ _ ?_⟩
  clear hK K
  refine walkG ?_
  (refine AO.step fun K hK => ?_; simp only [go_sem, Int.reduceBEq, Int.reduceLE, Int.reduceLT, Int.reduceNeg, Nat.reduceAdd, Nat.reduceEqDiff, Nat.reduceLT, Nat.reduceLeDiff, Nat.reduceMul, Nat.reduceSub, reduceCtorEq, ↓reduceIte]; (first | refine gsel_go ?_ | skip))
  refine .inl ⟨_, fun _ => hE, hK _ _ _ ?_⟩
  clear hK K
  refine walkG ?_
  refine ⟨.inr rfl, ?_⟩
  rw [Tryz.results46]
  simp only [resOk, resV, go_sem, Int.reduceBEq, Int.reduceLE, Int.reduceLT, Int.reduceNeg, Nat.reduceAdd, Nat.reduceEqDiff, Nat.reduceLT, Nat.reduceLeDiff, Nat.reduceMul, Nat.reduceSub, reduceCtorEq, ↓reduceIte]
  rw [jeq_mk]
  exact .c _
end Go.Proofs.YtmmffaelkoinlaaGreatDoor
