/- The document's shape, as a contract over plain values. -/
import Derived.Test.YticfioblapjkmaaGreatRc
import Derived.Test.YticfioblapjkmaaGreatPd
namespace Go.Proofs.YticfioblapjkmaaGreat
open Go.RowKit
set_option linter.unusedVariables false
set_option linter.unusedSimpArgs false
attribute [local go_sem] opx opE ev okx gcond bnd okO AV.get AV.okb cAV upd_at putd_some putd_none wrs_nil wrs_cons look_nil look_cons st argT_at bpick_and bpick_or bpick_true bpick_false binV binI binS binVOk binOk isShift binSOk unV unVOk loadV loadP cellsA zeroA Blkd.len setE grown moreA moreR moreOk eqRes pv fillA fillE putSeg AV.cellish AV.pureL AV.pureB lentL_is ex_some AV.ren AV.renL renL_c Blkd.ren rho wrM renN lentOk rhoE keepM endOk tyA_2 tyA_3 tyA_4 tyA_5 tyA_6 tyA_7 tyA_8 tyA_9 tyA_10 tyA_11 tyA_12 tyA_13 tyA_14 tyA_15 tyA_16 tyA_17 tyA_18 tyA_19 tyA_21 tyA_22 tyA_23 tyA_24 tyA_25 tyA_28 tyA_29 tyA_38 tyA_39 tyA_40 tyA_41 tyA_42 tyA_43 tyA_49 tyA_50 tyA_51 tyA_52 tyA_53 tyA_57 tyA_62 tyA_76 tyA_87 tyA_88 tyA_89 tyA_100 tyA_101 tyA_102 tyA_106 tyA_119 tyA_128 tyA_130 tyA_132 tyA_137 tyA_141 tyA_146 tyA_149 tyA_150 tyA_151 tyA_152 tyA_153 tyA_154 tyA_155 tyA_157 tyA_158 Option.map_some Option.map_none Option.getD_some Option.getD_none Option.bind_some Option.bind_none List.getElem?_cons_zero List.getElem?_cons_succ List.getElem?_nil List.getElem?_toArray List.length_cons List.length_nil List.length_map List.forall_mem_map List.map_cons List.map_nil List.drop_zero List.drop_succ_cons List.drop_nil List.take_zero List.take_succ_cons List.take_nil List.mem_cons List.not_mem_nil or_false forall_eq_or_imp forall_eq List.set_cons_zero List.set_cons_succ List.cons_append List.nil_append List.append_nil List.foldl_cons List.foldl_nil List.replicate_succ List.replicate_zero List.all_cons List.all_nil if_true if_false Bool.false_eq_true ne_eq not_false_eq_true not_true_eq_false true_and and_true and_self true_implies imp_self implies_true forall_const beq_self_eq_true Bool.and_true Bool.true_and Bool.and_false Bool.false_and Bool.or_true Bool.true_or Bool.or_false Bool.false_or Bool.not_true Bool.not_false Bool.not_eq_eq_eq_not intKindOf Value.oneCell' Int.toNat_natCast beq_true beq_false Bool.not_eq_true false_implies false_or true_or or_true Nat.zero_add Nat.add_zero decide_true decide_false Int.cast_ofNat_Int Int.toNat_zero Int.toNat_one eq_self

theorem takeN {α : Type} {l : List α} {i : Nat} {x : α} (h : l[i]? = some x) : l.take (i + 1) = l.take i ++ [x] := by
  rw [List.take_add_one, h]
  rfl
theorem rshapes_all : ∀ xs : List JT, rshapes xs = xs.all rshape
  | [] => by rw [rshapes]; rfl
  | x :: xs => by rw [rshapes, rshapes_all xs]; rfl
set_option maxRecDepth 100000 in
set_option maxHeartbeats 1600000 in
theorem rshape_told : ∀ (m : Nat) (t : JT), SizeOf.sizeOf t ≤ m → t.sm 1000000 → Told Tryz.prog 18 [t.av] (.c (.v (.bool (rshape t)))) := by
  intro m
  induction m with
  | zero =>
    intro t ht
    cases t
    simp at ht
  | succ m ih =>
  intro t ht hsm
  cases t with
  | mk k n s ks xs =>
  have hx : ∀ x ∈ xs, Told Tryz.prog 18 [x.av] (.c (.v (.bool (rshape x)))) := fun x hxm => ih x (by have := List.sizeOf_lt_of_mem hxm; simp at ht; omega) (smL_mem hsm.2.2.2.2 x hxm)
  obtain ⟨hsl, hkl, hks, hxl, _⟩ := hsm
  clear ih ht
  obtain ⟨V, hV⟩ : ∃ V, V = rshape (.mk k n s ks xs) := ⟨_, rfl⟩
  rw [← hV]
  rw [rshape] at hV
  have hT := rtextr_told s hsl
  simp only [JT.av]
  refine VC.told ent_18 Tryz.func18 rfl Tryz.ntmps18 (by simp) (by simp [AV.pureB, AV.pureL, cells_mk]) (by simp [AV.pureB, AV.pureL]) fun hb => ?_
  clear hb
  (iterate 18 (first | refine pass ?_ | refine VC.region (by rfl) (by rfl) ?_ | (refine AO.step fun K hK => ?_; simp only [cells_mk, List.length_map, go_sem, Int.reduceBEq, Int.reduceLE, Int.reduceLT, Int.reduceNeg, Nat.reduceAdd, Nat.reduceEqDiff, Nat.reduceLT, Nat.reduceLeDiff, Nat.reduceMul, Nat.reduceSub, reduceCtorEq, ↓reduceIte]; (first | refine gsel_skip ?_ | refine gsel_go ?_ | skip); (first | refine hK _ _ _ ?_ | refine ⟨by first | omega | exact ⟨_, rfl, rfl⟩ | exact fun _ => ⟨_, rfl, rfl⟩ | (intro h; simp only [cells_mk, List.length_map, h, true_and]; omega) | (clear hK; intro h; simp_all), hK _ _ _ ?_⟩); clear hK K) | refine VC.draw mixP (by rfl) (by rfl) ?_ | refine ⟨okd_of (by kernel_rfl), ?_⟩ | refine BQ.other (by decide) ?_ | refine VC.seq ?_ | refine AO.nil ?_ | refine VC.block ?_))
  obtain ⟨b1, hb1⟩ : ∃ b : Bool, b = (decide (k < 1) || decide (k > 6)) := ⟨_, rfl⟩
  rw [← hb1]; replace hb1 := Lib.hid hb1
  (iterate 15 (first | refine pass ?_ | refine VC.region (by rfl) (by rfl) ?_ | (refine AO.step fun K hK => ?_; simp only [cells_mk, List.length_map, go_sem, Int.reduceBEq, Int.reduceLE, Int.reduceLT, Int.reduceNeg, Nat.reduceAdd, Nat.reduceEqDiff, Nat.reduceLT, Nat.reduceLeDiff, Nat.reduceMul, Nat.reduceSub, reduceCtorEq, ↓reduceIte]; (first | refine gsel_skip ?_ | refine gsel_go ?_ | skip); (first | refine hK _ _ _ ?_ | refine ⟨by first | omega | exact ⟨_, rfl, rfl⟩ | exact fun _ => ⟨_, rfl, rfl⟩ | (intro h; simp only [cells_mk, List.length_map, h, true_and]; omega) | (clear hK; intro h; simp_all), hK _ _ _ ?_⟩); clear hK K) | refine VC.draw mixP (by rfl) (by rfl) ?_ | refine ⟨okd_of (by kernel_rfl), ?_⟩ | refine BQ.other (by decide) ?_ | refine VC.seq ?_ | refine AO.nil ?_ | refine VC.block ?_))
  obtain ⟨b2, hb2⟩ : ∃ b : Bool, b = (b1 || k != 2 && k != 3 && n != 0) := ⟨_, rfl⟩
  rw [← hb2]; replace hb2 := Lib.hid hb2
  (iterate 15 (first | refine pass ?_ | refine VC.region (by rfl) (by rfl) ?_ | (refine AO.step fun K hK => ?_; simp only [cells_mk, List.length_map, go_sem, Int.reduceBEq, Int.reduceLE, Int.reduceLT, Int.reduceNeg, Nat.reduceAdd, Nat.reduceEqDiff, Nat.reduceLT, Nat.reduceLeDiff, Nat.reduceMul, Nat.reduceSub, reduceCtorEq, ↓reduceIte]; (first | refine gsel_skip ?_ | refine gsel_go ?_ | skip); (first | refine hK _ _ _ ?_ | refine ⟨by first | omega | exact ⟨_, rfl, rfl⟩ | exact fun _ => ⟨_, rfl, rfl⟩ | (intro h; simp only [cells_mk, List.length_map, h, true_and]; omega) | (clear hK; intro h; simp_all), hK _ _ _ ?_⟩); clear hK K) | refine VC.draw mixP (by rfl) (by rfl) ?_ | refine ⟨okd_of (by kernel_rfl), ?_⟩ | refine BQ.other (by decide) ?_ | refine VC.seq ?_ | refine AO.nil ?_ | refine VC.block ?_))
  obtain ⟨b3, hb3⟩ : ∃ b : Bool, b = (b2 || k == 2 && n != 0 && n != 1) := ⟨_, rfl⟩
  rw [← hb3]; replace hb3 := Lib.hid hb3
  have hE : (⟨#[]⟩ : ByteArray).toList = [] := str_toList []
  (iterate 10 (first | refine pass ?_ | refine VC.region (by rfl) (by rfl) ?_ | (refine AO.step fun K hK => ?_; simp only [cells_mk, List.length_map, str_toList, hE, go_sem, Int.reduceBEq, Int.reduceLE, Int.reduceLT, Int.reduceNeg, Nat.reduceAdd, Nat.reduceEqDiff, Nat.reduceLT, Nat.reduceLeDiff, Nat.reduceMul, Nat.reduceSub, reduceCtorEq, ↓reduceIte]; (first | refine gsel_skip ?_ | refine gsel_go ?_ | skip); (first | refine hK _ _ _ ?_ | refine ⟨by first | omega | exact ⟨_, rfl, rfl⟩ | exact fun _ => ⟨_, rfl, rfl⟩ | (intro h; simp only [cells_mk, List.length_map, str_toList, hE, h, true_and]; omega) | (clear hK; intro h; simp_all), hK _ _ _ ?_⟩); clear hK K) | refine VC.draw mixP (by rfl) (by rfl) ?_ | refine ⟨okd_of (by kernel_rfl), ?_⟩ | refine BQ.other (by decide) ?_ | refine VC.seq ?_ | refine AO.nil ?_ | refine VC.block ?_))
  obtain ⟨b4, hb4⟩ : ∃ b : Bool, b = (b3 || k != 4 && !s == []) := ⟨_, rfl⟩
  rw [← hb4]; replace hb4 := Lib.hid hb4
  refine walkGF (@cells_mk) ?_
  refine walkDF (@cells_mk) (hT) ?_
  (iterate 3 (first | refine pass ?_ | refine VC.region (by rfl) (by rfl) ?_ | (refine AO.step fun K hK => ?_; simp only [cells_mk, List.length_map, go_sem, Int.reduceBEq, Int.reduceLE, Int.reduceLT, Int.reduceNeg, Nat.reduceAdd, Nat.reduceEqDiff, Nat.reduceLT, Nat.reduceLeDiff, Nat.reduceMul, Nat.reduceSub, reduceCtorEq, ↓reduceIte]; (first | refine gsel_skip ?_ | refine gsel_go ?_ | skip); (first | refine hK _ _ _ ?_ | refine ⟨by first | omega | exact ⟨_, rfl, rfl⟩ | exact fun _ => ⟨_, rfl, rfl⟩ | (intro h; simp only [cells_mk, List.length_map, h, true_and]; omega) | (clear hK; intro h; simp_all), hK _ _ _ ?_⟩); clear hK K) | refine VC.draw mixP (by rfl) (by rfl) ?_ | refine ⟨okd_of (by kernel_rfl), ?_⟩ | refine BQ.other (by decide) ?_ | refine VC.seq ?_ | refine AO.nil ?_ | refine VC.block ?_))
  obtain ⟨b5, hb5⟩ : ∃ b : Bool, b = (b4 || !isRight s) := ⟨_, rfl⟩
  rw [← hb5]; replace hb5 := Lib.hid hb5
  (iterate 11 (first | refine pass ?_ | refine VC.region (by rfl) (by rfl) ?_ | (refine AO.step fun K hK => ?_; simp only [cells_mk, List.length_map, go_sem, Int.reduceBEq, Int.reduceLE, Int.reduceLT, Int.reduceNeg, Nat.reduceAdd, Nat.reduceEqDiff, Nat.reduceLT, Nat.reduceLeDiff, Nat.reduceMul, Nat.reduceSub, reduceCtorEq, ↓reduceIte]; (first | refine gsel_skip ?_ | refine gsel_go ?_ | skip); (first | refine hK _ _ _ ?_ | refine ⟨by first | omega | exact ⟨_, rfl, rfl⟩ | exact fun _ => ⟨_, rfl, rfl⟩ | (intro h; simp only [cells_mk, List.length_map, h, true_and]; omega) | (clear hK; intro h; simp_all), hK _ _ _ ?_⟩); clear hK K) | refine VC.draw mixP (by rfl) (by rfl) ?_ | refine ⟨okd_of (by kernel_rfl), ?_⟩ | refine BQ.other (by decide) ?_ | refine VC.seq ?_ | refine AO.nil ?_ | refine VC.block ?_))
  obtain ⟨b6, hb6⟩ : ∃ b : Bool, b = (b5 || decide (k < 5) && decide ((xs.length : Int) > 0)) := ⟨_, rfl⟩
  rw [← hb6]; replace hb6 := Lib.hid hb6
  (iterate 11 (first | refine pass ?_ | refine VC.region (by rfl) (by rfl) ?_ | (refine AO.step fun K hK => ?_; simp only [cells_mk, List.length_map, go_sem, Int.reduceBEq, Int.reduceLE, Int.reduceLT, Int.reduceNeg, Nat.reduceAdd, Nat.reduceEqDiff, Nat.reduceLT, Nat.reduceLeDiff, Nat.reduceMul, Nat.reduceSub, reduceCtorEq, ↓reduceIte]; (first | refine gsel_skip ?_ | refine gsel_go ?_ | skip); (first | refine hK _ _ _ ?_ | refine ⟨by first | omega | exact ⟨_, rfl, rfl⟩ | exact fun _ => ⟨_, rfl, rfl⟩ | (intro h; simp only [cells_mk, List.length_map, h, true_and]; omega) | (clear hK; intro h; simp_all), hK _ _ _ ?_⟩); clear hK K) | refine VC.draw mixP (by rfl) (by rfl) ?_ | refine ⟨okd_of (by kernel_rfl), ?_⟩ | refine BQ.other (by decide) ?_ | refine VC.seq ?_ | refine AO.nil ?_ | refine VC.block ?_))
  obtain ⟨b7, hb7⟩ : ∃ b : Bool, b = (b6 || k != 6 && decide ((ks.length : Int) > 0)) := ⟨_, rfl⟩
  rw [← hb7]; replace hb7 := Lib.hid hb7
  (iterate 13 (first | refine pass ?_ | refine VC.region (by rfl) (by rfl) ?_ | (refine AO.step fun K hK => ?_; simp only [cells_mk, List.length_map, go_sem, Int.reduceBEq, Int.reduceLE, Int.reduceLT, Int.reduceNeg, Nat.reduceAdd, Nat.reduceEqDiff, Nat.reduceLT, Nat.reduceLeDiff, Nat.reduceMul, Nat.reduceSub, reduceCtorEq, ↓reduceIte]; (first | refine gsel_skip ?_ | refine gsel_go ?_ | skip); (first | refine hK _ _ _ ?_ | refine ⟨by first | omega | exact ⟨_, rfl, rfl⟩ | exact fun _ => ⟨_, rfl, rfl⟩ | (intro h; simp only [cells_mk, List.length_map, h, true_and]; omega) | (clear hK; intro h; simp_all), hK _ _ _ ?_⟩); clear hK K) | refine VC.draw mixP (by rfl) (by rfl) ?_ | refine ⟨okd_of (by kernel_rfl), ?_⟩ | refine BQ.other (by decide) ?_ | refine VC.seq ?_ | refine AO.nil ?_ | refine VC.block ?_))
  obtain ⟨b8, hb8⟩ : ∃ b : Bool, b = (b7 || k == 6 && (ks.length : Int) != (xs.length : Int)) := ⟨_, rfl⟩
  rw [← hb8]; replace hb8 := Lib.hid hb8
  have hF : rfail (.mk k n s ks xs) = b8 := by
    rw [hb8.out, hb7.out, hb6.out, hb5.out, hb4.out, hb3.out, hb2.out, hb1.out, rfail]
    have e1 : ∀ a b : Int, decide (a ≠ b) = (a != b) := fun a b => by by_cases h : a = b <;> simp [h]
    have e2 : ∀ a b : Int, decide (a = b) = (a == b) := fun a b => by by_cases h : a = b <;> simp [h]
    have e3 : s.isEmpty = (s == []) := by cases s <;> rfl
    have e4 : (!xs.isEmpty) = decide ((xs.length : Int) > 0) := by cases xs <;> simp <;> omega
    have e5 : (!ks.isEmpty) = decide ((ks.length : Int) > 0) := by cases ks <;> simp <;> omega
    have e6 : decide (ks.length ≠ xs.length) = ((ks.length : Int) != (xs.length : Int)) := by
      by_cases h : ks.length = xs.length
      · simp [h]
      · have : ¬ (ks.length : Int) = (xs.length : Int) := by omega
        simp [h, this]
    simp only [e1, e2, e3, e4, e5, e6]
  refine walkGF (@cells_mk) ?_
  refine VC.cond (by rfl) (by trivial) (fun hc => ?_) (fun hc => ?_)
  · have hf : V = false := by rw [hV, hF, hc]; simp
    subst hf
    refine walkBF (@cells_mk) ?_
    refine ⟨by first | exact .inr rfl | exact .inl rfl, ?_⟩; rw [Tryz.results18]; simp only [resOk, resV, go_sem, Int.reduceBEq, Int.reduceLE, Int.reduceLT, Int.reduceNeg, Nat.reduceAdd, Nat.reduceEqDiff, Nat.reduceLT, Nat.reduceLeDiff, Nat.reduceMul, Nat.reduceSub, reduceCtorEq, ↓reduceIte]
    exact .c _
  have hv : V = ((ks.all isRight && decide ks.Nodup) && rshapes xs) := by rw [hV, hF, hc]; simp
  clear hV hF hb1 hb2 hb3 hb4 hb5 hb6 hb7 hb8 hT
  refine walkGF (@cells_mk) ?_
  refine VC.loop (ι := {i : Nat // i ≤ ks.length ∧ (∀ y ∈ ks.take i, isRight y = true) ∧ (ks.take i).Nodup})
    (fun q => [(1, .ref 0 1 0 0), (3, .c (.v (.int .i64 (q.1 : Int))))]) (fun q => [(0, ⟨false, 25, 5, [(JT.mk k n s ks xs).cells.map .c]⟩)]) 2000 (fun q => ks.length - q.1) ⟨0, Nat.zero_le _, by simp, by simp⟩ ?_ ?_
  · simp only [cells_mk, Weak, eq_self, used_is, sc_any, sc_c, sc_pp, sc_ref, sc_row, sc_agg, sc_fn, ScL, some_imp, List.forall_mem_map, go_sem, Int.reduceBEq, Int.reduceLE, Int.reduceLT, Int.reduceNeg, Nat.reduceAdd, Nat.reduceEqDiff, Nat.reduceLT, Nat.reduceLeDiff, Nat.reduceMul, Nat.reduceSub, reduceCtorEq, ↓reduceIte]
  · rintro ⟨i, hi, hr, hd⟩
    simp only []
    refine walkGF (@cells_mk) ?_
    refine VC.cond (by rfl) (by trivial) (fun hc2 => ?_) (fun hc2 => ?_)
    · have hlt : i < ks.length := by simp at hc2; omega
      obtain ⟨y, hy⟩ : ∃ y, ks[i]? = some y := ⟨ks[i], List.getElem?_eq_getElem hlt⟩
      have hw : IntKind.i64.wrap ((i : Int) + 1) = (i : Int) + 1 := wrap64_id (by omega) (by omega)
      have hT := rtextr_told y (hks y (List.mem_of_getElem? hy))
      (repeat (first | refine pass ?_ | refine VC.region (by rfl) (by rfl) ?_ | (refine AO.step fun K hK => ?_; simp only [cells_mk, List.length_map, List.getElem?_map, hy, sPV, len_cells, take_cells, take_cellsC, go_sem, Int.reduceBEq, Int.reduceLE, Int.reduceLT, Int.reduceNeg, Nat.reduceAdd, Nat.reduceEqDiff, Nat.reduceLT, Nat.reduceLeDiff, Nat.reduceMul, Nat.reduceSub, reduceCtorEq, ↓reduceIte]; (first | refine gsel_skip ?_ | refine gsel_go ?_ | skip); (first | refine hK _ _ _ ?_ | refine ⟨by first | omega | exact ⟨_, rfl, rfl⟩ | exact fun _ => ⟨_, rfl, rfl⟩ | (intro h; simp only [cells_mk, List.length_map, List.getElem?_map, hy, sPV, len_cells, take_cells, take_cellsC, h, true_and]; omega) | (clear hK; intro h; simp_all), hK _ _ _ ?_⟩); clear hK K) | refine VC.draw mixP (by rfl) (by rfl) ?_ | refine ⟨okd_of (by kernel_rfl), ?_⟩ | refine BQ.other (by decide) ?_ | refine VC.seq ?_ | refine AO.nil ?_ | refine VC.block ?_))
      refine walkCF (@cells_mk) (hT) ?_
      refine walkGF (@cells_mk) ?_
      refine VC.cond (by rfl) (by trivial) (fun hc3 => ?_) (fun hc3 => ?_)
      · have hf : V = false := by
          rw [hv]
          have : ks.all isRight = false := by
            rw [List.all_eq_false]
            exact ⟨y, List.mem_of_getElem? hy, by simpa using hc3⟩
          rw [this]
          rfl
        subst hf
        refine walkBF (@cells_mk) ?_
        refine ⟨by first | exact .inr rfl | exact .inl rfl, ?_⟩; rw [Tryz.results18]; simp only [resOk, resV, go_sem, Int.reduceBEq, Int.reduceLE, Int.reduceLT, Int.reduceNeg, Nat.reduceAdd, Nat.reduceEqDiff, Nat.reduceLT, Nat.reduceLeDiff, Nat.reduceMul, Nat.reduceSub, reduceCtorEq, ↓reduceIte]
        exact .c _
      refine walkGF (@cells_mk) ?_
      refine VC.loop (ι := {j : Nat // j ≤ i ∧ y ∉ ks.take j})
        (fun q => [(1, .ref 0 1 0 0), (3, .c (.v (.int .i64 (i : Int)))), (4, .c (.v (.int .i64 (q.1 : Int))))]) (fun q => [(0, ⟨false, 25, 5, [(JT.mk k n s ks xs).cells.map .c]⟩)]) 2000 (fun q => i - q.1) ⟨0, Nat.zero_le _, by simp⟩ ?_ ?_
      · simp only [cells_mk, Weak, eq_self, used_is, sc_any, sc_c, sc_pp, sc_ref, sc_row, sc_agg, sc_fn, ScL, some_imp, List.forall_mem_map, go_sem, Int.reduceBEq, Int.reduceLE, Int.reduceLT, Int.reduceNeg, Nat.reduceAdd, Nat.reduceEqDiff, Nat.reduceLT, Nat.reduceLeDiff, Nat.reduceMul, Nat.reduceSub, reduceCtorEq, ↓reduceIte]
      · rintro ⟨j, hj, hn⟩
        simp only []
        refine walkGF (@cells_mk) ?_
        refine VC.cond (by rfl) (by trivial) (fun hc4 => ?_) (fun hc4 => ?_)
        · have hjt : j < i := by simp at hc4; omega
          obtain ⟨z, hz⟩ : ∃ z, ks[j]? = some z := ⟨ks[j], List.getElem?_eq_getElem (by omega)⟩
          have hwj : IntKind.i64.wrap ((j : Int) + 1) = (j : Int) + 1 := wrap64_id (by omega) (by omega)
          (repeat (first | refine pass ?_ | refine VC.region (by rfl) (by rfl) ?_ | (refine AO.step fun K hK => ?_; simp only [cells_mk, List.length_map, List.getElem?_map, hy, hz, sPV, len_cells, take_cells, take_cellsC, str_toList, go_sem, Int.reduceBEq, Int.reduceLE, Int.reduceLT, Int.reduceNeg, Nat.reduceAdd, Nat.reduceEqDiff, Nat.reduceLT, Nat.reduceLeDiff, Nat.reduceMul, Nat.reduceSub, reduceCtorEq, ↓reduceIte]; (first | refine gsel_skip ?_ | refine gsel_go ?_ | skip); (first | refine hK _ _ _ ?_ | refine ⟨by first | omega | exact ⟨_, rfl, rfl⟩ | exact fun _ => ⟨_, rfl, rfl⟩ | (intro h; simp only [cells_mk, List.length_map, List.getElem?_map, hy, hz, sPV, len_cells, take_cells, take_cellsC, str_toList, h, true_and]; omega) | (clear hK; intro h; simp_all), hK _ _ _ ?_⟩); clear hK K) | refine VC.draw mixP (by rfl) (by rfl) ?_ | refine ⟨okd_of (by kernel_rfl), ?_⟩ | refine BQ.other (by decide) ?_ | refine VC.seq ?_ | refine AO.nil ?_ | refine VC.block ?_))
          refine VC.cond (by rfl) (by trivial) (fun hc5 => ?_) (fun hc5 => ?_)
          · have hf : V = false := by
              rw [hv]
              have : decide ks.Nodup = false := by
                rw [decide_eq_false_iff_not]
                intro hnd
                have hzy : z = y := by simpa using hc5
                subst hzy
                exact absurd ((List.getElem?_inj (by omega) hnd).1 (hz.trans hy.symm)) (by omega)
              rw [this]
              simp
            subst hf
            refine walkBF (@cells_mk) ?_
            refine ⟨by first | exact .inr rfl | exact .inl rfl, ?_⟩; rw [Tryz.results18]; simp only [resOk, resV, go_sem, Int.reduceBEq, Int.reduceLE, Int.reduceLT, Int.reduceNeg, Nat.reduceAdd, Nat.reduceEqDiff, Nat.reduceLT, Nat.reduceLeDiff, Nat.reduceMul, Nat.reduceSub, reduceCtorEq, ↓reduceIte]
            exact .c _
          refine walkGF (hwj) ?_
          refine .next ⟨j + 1, by omega, ?_⟩ ?_ (by simp only []; omega)
          · rw [takeN hz]
            have hzy : z ≠ y := by simpa using hc5
            simp [hn, Ne.symm hzy]
          simp only [cells_mk, Weak, eq_self, used_is, sc_any, sc_c, sc_pp, sc_ref, sc_row, sc_agg, sc_fn, ScL, some_imp, List.forall_mem_map, go_sem, Int.reduceBEq, Int.reduceLE, Int.reduceLT, Int.reduceNeg, Nat.reduceAdd, Nat.reduceEqDiff, Nat.reduceLT, Nat.reduceLeDiff, Nat.reduceMul, Nat.reduceSub, reduceCtorEq, ↓reduceIte]
          try exact cI (by omega)
        · have hji : j = i := by simp at hc4; omega
          refine walkGF (hw) ?_
          refine .next ⟨i + 1, by omega, ?_, ?_⟩ ?_ (by simp only []; omega)
          · rw [takeN hy]
            intro u hu
            rcases List.mem_append.1 hu with h | h
            · exact hr u h
            · obtain rfl := List.mem_singleton.1 h
              simpa using hc3
          · rw [takeN hy, List.nodup_append]
            refine ⟨hd, by simp, ?_⟩
            intro a ha b hb
            obtain rfl := List.mem_singleton.1 hb
            rintro rfl
            exact hn (hji ▸ ha)
          simp only [cells_mk, Weak, eq_self, used_is, sc_any, sc_c, sc_pp, sc_ref, sc_row, sc_agg, sc_fn, ScL, some_imp, List.forall_mem_map, go_sem, Int.reduceBEq, Int.reduceLE, Int.reduceLT, Int.reduceNeg, Nat.reduceAdd, Nat.reduceEqDiff, Nat.reduceLT, Nat.reduceLeDiff, Nat.reduceMul, Nat.reduceSub, reduceCtorEq, ↓reduceIte]
          try exact cI (by omega)
    · have hie : i = ks.length := by simp at hc2; omega
      subst hie
      rw [List.take_length] at hr hd
      have hv : V = rshapes xs := by
        rw [hv, List.all_eq_true.2 hr]
        simp [hd]
      refine walkGF (@cells_mk) ?_
      refine VC.loop (ι := {i : Nat // i ≤ xs.length ∧ (∀ y ∈ xs.take i, rshape y = true)})
        (fun q => [(1, .ref 0 1 0 0), (5, .c (.v (.int .i64 (q.1 : Int))))]) (fun q => [(0, ⟨false, 25, 5, [(JT.mk k n s ks xs).cells.map .c]⟩)]) 2000 (fun q => xs.length - q.1) ⟨0, Nat.zero_le _, by simp⟩ ?_ ?_
      · simp only [cells_mk, Weak, eq_self, used_is, sc_any, sc_c, sc_pp, sc_ref, sc_row, sc_agg, sc_fn, ScL, some_imp, List.forall_mem_map, go_sem, Int.reduceBEq, Int.reduceLE, Int.reduceLT, Int.reduceNeg, Nat.reduceAdd, Nat.reduceEqDiff, Nat.reduceLT, Nat.reduceLeDiff, Nat.reduceMul, Nat.reduceSub, reduceCtorEq, ↓reduceIte]
      · rintro ⟨i, hi, hr⟩
        simp only []
        refine walkGF (@cells_mk) ?_
        refine VC.cond (by rfl) (by trivial) (fun hc3 => ?_) (fun hc3 => ?_)
        · have hlt : i < xs.length := by simp at hc3; omega
          obtain ⟨y, hy⟩ : ∃ y, xs[i]? = some y := ⟨xs[i], List.getElem?_eq_getElem hlt⟩
          have hw : IntKind.i64.wrap ((i : Int) + 1) = (i : Int) + 1 := wrap64_id (by omega) (by omega)
          have hyc : (xs.map JT.cells)[i]? = some y.cells := by rw [List.getElem?_map, hy]; rfl
          have hT := hx y (List.mem_of_getElem? hy)
          simp only [JT.av] at hT
          refine walkGF (And.intro @cells_mk (And.intro hyc (And.intro @len_cells (And.intro @take_cells @take_cellsC)))) ?_
          refine walkCF (And.intro @len_cells (And.intro @take_cells (And.intro @take_cellsC @pureL_c))) (hT) ?_
          refine walkGF (@cells_mk) ?_
          refine VC.cond (by rfl) (by trivial) (fun hc5 => ?_) (fun hc5 => ?_)
          · have hf : V = false := by
              rw [hv, rshapes_all, List.all_eq_false]
              exact ⟨y, List.mem_of_getElem? hy, by simpa using hc5⟩
            subst hf
            refine walkBF (@cells_mk) ?_
            refine ⟨by first | exact .inr rfl | exact .inl rfl, ?_⟩; rw [Tryz.results18]; simp only [resOk, resV, go_sem, Int.reduceBEq, Int.reduceLE, Int.reduceLT, Int.reduceNeg, Nat.reduceAdd, Nat.reduceEqDiff, Nat.reduceLT, Nat.reduceLeDiff, Nat.reduceMul, Nat.reduceSub, reduceCtorEq, ↓reduceIte]
            exact .c _
          refine walkGF (hw) ?_
          refine .next ⟨i + 1, by omega, ?_⟩ ?_ (by simp only []; omega)
          · rw [takeN hy]
            intro u hu
            rcases List.mem_append.1 hu with h | h
            · exact hr u h
            · obtain rfl := List.mem_singleton.1 h
              simpa using hc5
          simp only [cells_mk, Weak, eq_self, used_is, sc_any, sc_c, sc_pp, sc_ref, sc_row, sc_agg, sc_fn, ScL, some_imp, List.forall_mem_map, go_sem, Int.reduceBEq, Int.reduceLE, Int.reduceLT, Int.reduceNeg, Nat.reduceAdd, Nat.reduceEqDiff, Nat.reduceLT, Nat.reduceLeDiff, Nat.reduceMul, Nat.reduceSub, reduceCtorEq, ↓reduceIte]
          try exact cI (by omega)
        · have hie : i = xs.length := by simp at hc3; omega
          subst hie
          rw [List.take_length] at hr
          have hf : V = true := by
            rw [hv, rshapes_all, List.all_eq_true.2 hr]
          subst hf
          refine walkGF (@cells_mk) ?_
          refine ⟨by first | exact .inr rfl | exact .inl rfl, ?_⟩; rw [Tryz.results18]; simp only [resOk, resV, go_sem, Int.reduceBEq, Int.reduceLE, Int.reduceLT, Int.reduceNeg, Nat.reduceAdd, Nat.reduceEqDiff, Nat.reduceLT, Nat.reduceLeDiff, Nat.reduceMul, Nat.reduceSub, reduceCtorEq, ↓reduceIte]
          exact .c _

end Go.Proofs.YticfioblapjkmaaGreat
