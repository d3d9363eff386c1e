/- Texts that lead to the law ValueConforms, joined. -/
import Derived.Test.YtmooihlndkgdaaaGreatDoorPkValueConformsF
import Derived.Test.YtmooihlndkgdaaaGreatDoorPkValueConformsA
import Derived.Test.YtmooihlndkgdaaaGreatDoorPkValueConformsB
namespace Go.Proofs.YtmooihlndkgdaaaGreatDoor
open Go.RowKit
set_option linter.unusedVariables false
set_option linter.unusedSimpArgs false
section
attribute [local go_sem] opx opE ev okx gcond bnd okO AV.get AV.okb cAV upd_at putd_some putd_none wrs_nil wrs_cons look_nil look_cons st argT_at bpick_and bpick_or bpick_true bpick_false binV binI binS binVOk binOk isShift binSOk unV unVOk loadV loadP cellsA zeroA Blkd.len setE grown moreA moreR moreOk eqRes pv fillA fillE putSeg AV.cellish AV.pureL AV.pureB lentL_is ex_some AV.ren AV.renL renL_c Blkd.ren rho wrM renN lentOk rhoE keepM endOk tyA_2 tyA_3 tyA_4 tyA_5 tyA_6 tyA_7 tyA_8 tyA_9 tyA_10 tyA_11 tyA_12 tyA_13 tyA_14 tyA_15 tyA_16 tyA_17 tyA_18 tyA_19 tyA_21 tyA_22 tyA_23 tyA_24 tyA_29 tyA_30 tyA_31 tyA_32 tyA_33 tyA_34 tyA_35 tyA_36 tyA_37 tyA_38 tyA_39 tyA_40 tyA_41 tyA_42 tyA_43 tyA_51 tyA_73 tyA_77 tyA_99 tyA_100 tyA_101 tyA_114 tyA_120 tyA_121 tyA_122 tyA_131 tyA_132 tyA_133 tyA_134 tyA_135 tyA_138 tyA_139 tyA_140 tyA_149 tyA_163 tyA_168 tyA_210 tyA_212 tyA_219 tyA_227 tyA_231 tyA_233 tyA_237 tyA_238 tyA_239 tyA_240 tyA_241 tyA_243 tyA_244 tyA_246 tyA_247 tyA_248 tyA_251 Option.map_some Option.map_none Option.getD_some Option.getD_none Option.bind_some Option.bind_none List.getElem?_cons_zero List.getElem?_cons_succ List.getElem?_nil List.getElem?_toArray List.length_cons List.length_nil List.length_map List.forall_mem_map List.map_cons List.map_nil List.drop_zero List.drop_succ_cons List.drop_nil List.take_zero List.take_succ_cons List.take_nil List.mem_cons List.not_mem_nil or_false forall_eq_or_imp forall_eq List.set_cons_zero List.set_cons_succ List.cons_append List.nil_append List.append_nil List.foldl_cons List.foldl_nil List.replicate_succ List.replicate_zero List.all_cons List.all_nil if_true if_false Bool.false_eq_true ne_eq not_false_eq_true not_true_eq_false true_and and_true and_self true_implies imp_self implies_true forall_const beq_self_eq_true Bool.and_true Bool.true_and Bool.and_false Bool.false_and Bool.or_true Bool.true_or Bool.or_false Bool.false_or Bool.not_true Bool.not_false Bool.not_eq_eq_eq_not intKindOf Value.oneCell' Int.toNat_natCast beq_true beq_false Bool.not_eq_true false_implies false_or true_or or_true Nat.zero_add Nat.add_zero decide_true decide_false Int.cast_ofNat_Int Int.toNat_zero Int.toNat_one eq_self

theorem vbare_eq (k n b : Int) (s : List UInt8) (m : Nat) (ks : List (List UInt8)) : vbare k n b s m ks =
    (!(if (k == 2 || k == 3 || k == 4 || k == 10 || k == 13) = true then false else (n != 0)) && (!(if (k == 5 || k == 6) = true then false else (b != 0)) && (!(if (k == 7 || k == 8 || k == 14) = true then false else decide ((s.length : Int) > 0)) &&
    (!(if (k == 9 || k == 11 || k == 12 || k == 13) = true then false else decide ((m : Int) > 0)) && !(if (k == 12) = true then false else decide ((ks.length : Int) > 0)))))) := by
  have e1 : ∀ {α : Type} (l : List α), l.isEmpty = !decide ((l.length : Int) > 0) := fun l => by
    cases l with
    | nil => rfl
    | cons x l => simp
  have e2 : (m == 0) = !decide ((m : Int) > 0) := by cases m <;> simp
  unfold vbare
  rw [e1 s, e1 ks, e2]
  congr 1
  · cases (k == 2 || k == 3 || k == 4 || k == 10 || k == 13) <;> simp [bne]
  congr 1
  · cases (k == 5 || k == 6) <;> simp [bne]
  congr 1
  · cases (k == 7 || k == 8 || k == 14) <;> simp
  congr 1
  · cases (k == 9 || k == 11 || k == 12 || k == 13) <;> simp
  · cases (k == 12) <;> simp
set_option maxRecDepth 100000 in
set_option maxHeartbeats 1600000 in
theorem vbare_told (k n b : Int) (s : List UInt8) (xs : List VT) (ks : List (List UInt8)) : Told Tryz.prog 89 [(VT.mk k n b s xs ks).av] (.c (.v (.bool (vbare k n b s xs.length ks)))) := by
  obtain ⟨V, hV⟩ : ∃ V, V = vbare k n b s xs.length ks := ⟨_, rfl⟩
  rw [← hV]
  rw [vbare_eq] at hV
  rw [VT.av_eq, vcells_mk]
  refine VC.told ent_89 Tryz.func89 rfl Tryz.ntmps89 (by simp) (by first | rfl | simp [AV.pureB, AV.pureL, pureL_c, pures]) (by first | rfl | simp [AV.pureB, AV.pureL, pureL_c, pures]) fun hb => ?_
  clear hb
  refine walkGF (@bytePV_len) ?_
  obtain ⟨p1, hp1⟩ : ∃ p : Bool, p = (n != 0) := ⟨_, rfl⟩
  obtain ⟨p2, hp2⟩ : ∃ p : Bool, p = (b != 0) := ⟨_, rfl⟩
  obtain ⟨p3, hp3⟩ : ∃ p : Bool, p = decide ((s.length : Int) > 0) := ⟨_, rfl⟩
  obtain ⟨p4, hp4⟩ : ∃ p : Bool, p = decide ((xs.length : Int) > 0) := ⟨_, rfl⟩
  obtain ⟨p5, hp5⟩ : ∃ p : Bool, p = decide ((ks.length : Int) > 0) := ⟨_, rfl⟩
  rw [← hp1, ← hp2, ← hp3, ← hp4, ← hp5] at hV ⊢
  clear hp1 hp2 hp3 hp4 hp5
  rcases (by omega : k = 2 ∨ k = 3 ∨ k = 4 ∨ k = 5 ∨ k = 6 ∨ k = 7 ∨ k = 8 ∨ k = 9 ∨ k = 10 ∨ k = 11 ∨ k = 12 ∨ k = 13 ∨ k = 14 ∨ (k ≠ 2 ∧ k ≠ 3 ∧ k ≠ 4 ∧ k ≠ 5 ∧ k ≠ 6 ∧ k ≠ 7 ∧ k ≠ 8 ∧ k ≠ 9 ∧ k ≠ 10 ∧ k ≠ 11 ∧ k ≠ 12 ∧ k ≠ 13 ∧ k ≠ 14)) with rfl | rfl | rfl | rfl | rfl | rfl | rfl | rfl | rfl | rfl | rfl | rfl | rfl | hne
  rotate_left 13
  · obtain ⟨h2, h3, h4, h5, h6, h7, h8, h9, h10, h11, h12, h13, h14⟩ := hne
    have e2 : (k == 2) = false := by simpa using h2
    have e3 : (k == 3) = false := by simpa using h3
    have e4 : (k == 4) = false := by simpa using h4
    have e5 : (k == 5) = false := by simpa using h5
    have e6 : (k == 6) = false := by simpa using h6
    have e7 : (k == 7) = false := by simpa using h7
    have e8 : (k == 8) = false := by simpa using h8
    have e9 : (k == 9) = false := by simpa using h9
    have e10 : (k == 10) = false := by simpa using h10
    have e11 : (k == 11) = false := by simpa using h11
    have e12 : (k == 12) = false := by simpa using h12
    have e13 : (k == 13) = false := by simpa using h13
    have e14 : (k == 14) = false := by simpa using h14
    simp only [e2, e3, e4, e5, e6, e7, e8, e9, e10, e11, e12, e13, e14, Bool.false_or, Bool.false_eq_true, if_false] at hV
    rw [e2]
    refine walkBF (And.intro e2 (And.intro e3 (And.intro e4 (And.intro e5 (And.intro e6 (And.intro e7 (And.intro e8 (And.intro e9 (And.intro e10 (And.intro e11 (And.intro e12 (And.intro e13 e14)))))))))))) ?_
    refine ⟨by first | exact .inr rfl | exact .inl rfl, ?_⟩; rw [Tryz.results89]; simp only [resOk, resV, go_sem, Int.reduceBEq, Int.reduceLE, Int.reduceLT, Int.reduceNeg, Nat.reduceAdd, Nat.reduceEqDiff, Nat.reduceLT, Nat.reduceLeDiff, Nat.reduceMul, Nat.reduceSub, reduceCtorEq, ↓reduceIte]
    refine frz_c ?_
    rw [hV]
    simp [Bool.and_assoc]
  all_goals
    simp only [Int.reduceBEq, Bool.false_or, Bool.or_false, Bool.true_or, Bool.or_true, Bool.false_eq_true, if_false, if_true, Bool.not_false, Bool.true_and, Bool.and_true] at hV
    refine walkB ?_
    refine ⟨by first | exact .inr rfl | exact .inl rfl, ?_⟩; rw [Tryz.results89]; simp only [resOk, resV, go_sem, Int.reduceBEq, Int.reduceLE, Int.reduceLT, Int.reduceNeg, Nat.reduceAdd, Nat.reduceEqDiff, Nat.reduceLT, Nat.reduceLeDiff, Nat.reduceMul, Nat.reduceSub, reduceCtorEq, ↓reduceIte]
    refine frz_c ?_
    rw [hV]
    try simp [Bool.and_assoc]
set_option maxRecDepth 100000 in
set_option maxHeartbeats 400000 in
theorem key1_told (y : List UInt8) (hl : y.length ≤ 1000000) : Told Tryz.prog 134 [.c (.v (.string (str y)))] (.c (.v (.bool (!keyM y)))) := by
  have hR := uright_told y (by omega)
  have e : (!keyM y) = (decide ((y.length : Int) > 20000) || !isRight y) := by
    unfold keyM
    rw [Bool.not_and]
    congr 1
    rw [← decide_not]
    exact decide_eq_decide.2 (by omega)
  rw [e]
  clear e
  have hbs : bytePV (str y).data.toList = bytePV y := by rw [str_dl]
  refine VC.told ent_134 Tryz.func134 rfl Tryz.ntmps134 (by simp) (by first | rfl | simp [AV.pureB, AV.pureL, pureL_c, pures]) (by first | rfl | simp [AV.pureB, AV.pureL, pureL_c, pures]) fun hb => ?_
  clear hb
  refine walkGF (And.intro @str_size hbs) ?_
  refine walkDF (hbs) (hR) ?_
  refine walkG ?_
  refine ⟨by first | exact .inr rfl | exact .inl rfl, ?_⟩; rw [Tryz.results134]; simp only [resOk, resV, go_sem, Int.reduceBEq, Int.reduceLE, Int.reduceLT, Int.reduceNeg, Nat.reduceAdd, Nat.reduceEqDiff, Nat.reduceLT, Nat.reduceLeDiff, Nat.reduceMul, Nat.reduceSub, reduceCtorEq, ↓reduceIte]
  exact .c _
theorem any_not (ks : List (List UInt8)) : (!ks.any fun y => !keyM y) = ks.all keyM := by
  induction ks with
  | nil => rfl
  | cons y ks ih => simp only [List.any_cons, List.all_cons, Bool.not_or, Bool.not_not, ih]
set_option maxRecDepth 100000 in
set_option maxHeartbeats 400000 in
theorem vkeyed_told (ks : List (List UInt8)) (hk : ∀ y ∈ ks, y.length ≤ 1000000) : Told Tryz.prog 93 [.c (.sl 1 (ks.map sPV))] (.c (.v (.bool (ks.all keyM)))) := by
  have hC := cnfS_told (g := 134) (fs := []) (cs := []) rfl rfl ks (fun y => !keyM y) fun y hy => key1_told y (hk y hy)
  rw [← any_not]
  generalize (ks.any fun y => !keyM y) = B at hC ⊢
  refine VC.told ent_93 Tryz.func93 rfl Tryz.ntmps93 (by simp) (by first | rfl | simp [AV.pureB, AV.pureL, pureL_c, pures]) (by first | rfl | simp [AV.pureB, AV.pureL, pureL_c, pures]) fun hb => ?_
  clear hb
  refine walkG ?_
  refine walkC (hC) ?_
  refine walkG ?_
  refine ⟨by first | exact .inr rfl | exact .inl rfl, ?_⟩; rw [Tryz.results93]; simp only [resOk, resV, go_sem, Int.reduceBEq, Int.reduceLE, Int.reduceLT, Int.reduceNeg, Nat.reduceAdd, Nat.reduceEqDiff, Nat.reduceLT, Nat.reduceLeDiff, Nat.reduceMul, Nat.reduceSub, reduceCtorEq, ↓reduceIte]
  exact .c _

set_option maxRecDepth 100000 in
set_option maxHeartbeats 800000 in
theorem each_told (s : ST) (xs : List VT) (hl : xs.length ≤ 1000000) (f : Nat → Int) (g : FuncId) (c : List PV) (hg : ∀ i, i < xs.length → Told Tryz.prog g [.c (.v (.int .i64 (i : Int))), .pp c] (.c (.v (.int .i64 (f i)))))
    (hx : ∀ (i : Nat) (x : VT), xs[i]? = some x → Told Tryz.prog 52 [s.av, .c (.v (.int .i64 (f i))), x.av] (.c (.v (.bool (isM s.nodes (f i) x))))) :
    Told Tryz.prog 91 [s.av, .c (.sl 6 (xs.map VT.cells)), .fn (.func g) [] [.pp c]] (.c (.v (.bool (eachM s.nodes f xs && decide (xs.length ≤ 300))))) := by
  obtain ⟨V, hV⟩ : ∃ V, V = (eachM s.nodes f xs && decide (xs.length ≤ 300)) := ⟨_, rfl⟩
  rw [← hV]
  simp only [ST.av_eq, scells_mk, List.map_cons, List.map_nil] at hx
  rw [ST.av_eq, scells_mk]
  refine VC.told ent_91 Tryz.func91 rfl Tryz.ntmps91 (by simp) (by first | rfl | simp [AV.pureB, AV.pureL, pureL_c, pures]) (by first | rfl | simp [AV.pureB, AV.pureL, pureL_c, pures]) fun hb => ?_
  clear hb
  refine walkG ?_
  refine VC.loop (ι := {i : Nat // i ≤ xs.length ∧ ∀ (j : Nat) (x : VT), j < i → xs[j]? = some x → isM s.nodes (f j) x = true}) (fun q => [(1, .c (.sl 6 (xs.map VT.cells))), (2, .fn (.func g) [] [.pp c]), (3, .ref 0 1 0 0), (9, .c (.sl 6 (xs.map VT.cells))), (10, .c (.v (.int .i64 (xs.length : Int)))), (11, .c (.v (.int .i64 (q.1 : Int))))])
    (fun _ => [(0, ⟨false, 24, 2, [[.c (.sl 10 (s.nodes.map NT.cells)), .c (.v (.int .i64 s.root))]]⟩)]) 800 (fun q => xs.length - q.1) ⟨0, Nat.zero_le _, by intro j x h; omega⟩ ?_ ?_
  · simp only [Weak, eq_self, used_is, sc_any, sc_c, sc_pp, sc_ref, sc_row, sc_agg, sc_fn, ScL, some_imp, List.forall_mem_map, go_sem, Int.reduceBEq, Int.reduceLE, Int.reduceLT, Int.reduceNeg, Nat.reduceAdd, Nat.reduceEqDiff, Nat.reduceLT, Nat.reduceLeDiff, Nat.reduceMul, Nat.reduceSub, reduceCtorEq, ↓reduceIte]
  rintro ⟨i, hi, ht⟩
  simp only []
  refine walkG ?_
  refine VC.cond (by rfl) (by trivial) (fun hc => ?_) (fun hc => ?_)
  · have hlt : i < xs.length := by simp at hc; omega
    obtain ⟨x, hxi⟩ : ∃ x, xs[i]? = some x := ⟨xs[i], List.getElem?_eq_getElem hlt⟩
    have hw : IntKind.i64.wrap ((i : Int) + 1) = (i : Int) + 1 := wrap64_id (by omega) (by omega)
    have hG := hg i hlt
    have hX := hx i x hxi
    clear hg hx
    have hxp : (xs.map VT.cells)[i]? = some x.cells := by rw [List.getElem?_map, hxi]; rfl
    rw [VT.av_eq] at hX
    have hB := fun h => eachM_false (ns := s.nodes) (f := f) hxi h
    obtain ⟨B, hBt⟩ : ∃ B, B = isM s.nodes (f i) x := ⟨_, rfl⟩
    rw [← hBt] at hX hB
    replace hBt := hBt.symm
    refine walkGF (And.intro hxp (And.intro @len_vcells (And.intro @take_vcells @take_vcellsC))) ?_
    refine walkC (hG) ?_
    refine walkGF (And.intro hxp (And.intro @len_vcells (And.intro @take_vcells @take_vcellsC))) ?_
    refine walkCF (@pureL_c) (hX) ?_
    refine walkG ?_
    refine VC.cond (by rfl) (by trivial) (fun hc2 => ?_) (fun hc2 => ?_)
    · have hf : B = false := by simpa using hc2
      obtain rfl : V = false := by rw [hV, hB hf]; rfl
      refine walkG ?_
      refine ⟨by first | exact .inr rfl | exact .inl rfl, ?_⟩; rw [Tryz.results91]; simp only [resOk, resV, go_sem, Int.reduceBEq, Int.reduceLE, Int.reduceLT, Int.reduceNeg, Nat.reduceAdd, Nat.reduceEqDiff, Nat.reduceLT, Nat.reduceLeDiff, Nat.reduceMul, Nat.reduceSub, reduceCtorEq, ↓reduceIte]
      exact .c _
    · have hf : B = true := by simpa using hc2
      refine walkGF (hw) ?_
      refine .next ⟨i + 1, by omega, ?_⟩ ?_ (by simp only []; omega)
      · intro j y hj hy
        by_cases hji : j < i
        · exact ht j y hji hy
        · obtain rfl : j = i := by omega
          rw [hxi] at hy
          obtain rfl := Option.some.inj hy
          exact hBt.trans hf
      simp only [Weak, eq_self, used_is, sc_any, sc_c, sc_pp, sc_ref, sc_row, sc_agg, sc_fn, ScL, some_imp, List.forall_mem_map, go_sem, Int.reduceBEq, Int.reduceLE, Int.reduceLT, Int.reduceNeg, Nat.reduceAdd, Nat.reduceEqDiff, Nat.reduceLT, Nat.reduceLeDiff, Nat.reduceMul, Nat.reduceSub, reduceCtorEq, ↓reduceIte]
      exact cI (by omega)
  · have hie : i = xs.length := by simp at hc; omega
    have hall : eachM s.nodes f xs = true := (eachM_iff _ _ _).2 fun j x hj => ht j x (by have := (List.getElem?_eq_some_iff.1 hj).1; omega) hj
    have hv : V = decide ((xs.length : Int) ≤ 300) := by
      rw [hV, hall, Bool.true_and]
      exact decide_eq_decide.2 (by omega)
    clear hV
    refine walkG ?_
    refine ⟨by first | exact .inr rfl | exact .inl rfl, ?_⟩; rw [Tryz.results91]; simp only [resOk, resV, go_sem, Int.reduceBEq, Int.reduceLE, Int.reduceLT, Int.reduceNeg, Nat.reduceAdd, Nat.reduceEqDiff, Nat.reduceLT, Nat.reduceLeDiff, Nat.reduceMul, Nat.reduceSub, reduceCtorEq, ↓reduceIte]
    rw [hv]
    exact .c _
set_option maxRecDepth 100000 in
set_option maxHeartbeats 400000 in
theorem conf1_told (nd : NT) (i : Nat) (hi : i < nd.fields.length) : Told Tryz.prog 92 [.c (.v (.int .i64 (i : Int))), .pp nd.cells] (.c (.v (.int .i64 (typeAt nd i)))) := by
  obtain ⟨f, hf⟩ : ∃ f, nd.fields[i]? = some f := ⟨nd.fields[i], List.getElem?_eq_getElem hi⟩
  have hfp : (nd.fields.map FT.cells)[i]? = some f.cells := by rw [List.getElem?_map, hf]; rfl
  rw [show typeAt nd i = f.type by rw [typeAt, hf], ncells_mk]
  refine VC.told ent_92 Tryz.func92 rfl Tryz.ntmps92 (by simp) (by first | rfl | simp [AV.pureB, AV.pureL, pureL_c, pures]) (by first | rfl | simp [AV.pureB, AV.pureL, pureL_c, pures]) fun hb => ?_
  clear hb
  refine walkGF (And.intro hfp @fcells_mk) ?_
  refine ⟨by first | exact .inr rfl | exact .inl rfl, ?_⟩; rw [Tryz.results92]; simp only [resOk, resV, go_sem, Int.reduceBEq, Int.reduceLE, Int.reduceLT, Int.reduceNeg, Nat.reduceAdd, Nat.reduceEqDiff, Nat.reduceLT, Nat.reduceLeDiff, Nat.reduceMul, Nat.reduceSub, reduceCtorEq, ↓reduceIte]
  exact .c _
set_option maxRecDepth 100000 in
set_option maxHeartbeats 400000 in
theorem conf2_told (nd : NT) (i : Int) : Told Tryz.prog 94 [.c (.v (.int .i64 i)), .pp nd.cells] (.c (.v (.int .i64 nd.items))) := by
  rw [ncells_mk]
  refine VC.told ent_94 Tryz.func94 rfl Tryz.ntmps94 (by simp) (by first | rfl | simp [AV.pureB, AV.pureL, pureL_c, pures]) (by first | rfl | simp [AV.pureB, AV.pureL, pureL_c, pures]) fun hb => ?_
  clear hb
  refine walkG ?_
  refine ⟨by first | exact .inr rfl | exact .inl rfl, ?_⟩; rw [Tryz.results94]; simp only [resOk, resV, go_sem, Int.reduceBEq, Int.reduceLE, Int.reduceLT, Int.reduceNeg, Nat.reduceAdd, Nat.reduceEqDiff, Nat.reduceLT, Nat.reduceLeDiff, Nat.reduceMul, Nat.reduceSub, reduceCtorEq, ↓reduceIte]
  exact .c _
theorem view_fn1 {h : Nat → Option Blkd} {f : Fn} {x y : AV} (hv : View h x y) : View h (.fn f [] [x]) (.fn f [] [y]) := by
  refine .fn rfl (by simp) rfl fun k u z h1 h2 => ?_
  match k with
  | 0 => obtain rfl := Option.some.inj h1; obtain rfl := Option.some.inj h2; exact hv
  | k + 1 => simp at h1
theorem shr32 (b : Int) (hb : 0 ≤ b) : (b.fdiv (2 ^ min (Int.toNat 32) 64) == 0) = decide (b < 4294967296) := by
  rw [show (2 : Int) ^ min (Int.toNat 32) 64 = 4294967296 from rfl, Int.fdiv_eq_ediv_of_nonneg _ (by decide), Bool.eq_iff_iff]
  simp only [beq_iff_eq, decide_eq_true_eq]
  omega
theorem vbare_items {k n b : Int} {s : List UInt8} {m : Nat} {ks : List (List UInt8)} (h : vbare k n b s m ks = true) (h9 : k ≠ 9) (h11 : k ≠ 11) (h12 : k ≠ 12) (h13 : k ≠ 13) : m = 0 := by
  unfold vbare at h
  simp only [Bool.and_eq_true, Bool.or_eq_true, beq_iff_eq] at h
  omega
set_option maxRecDepth 100000 in
set_option maxHeartbeats 1600000 in
theorem conforms_told (s : ST) (hkd : ∀ n ∈ s.nodes, ∀ k ∈ kidsN n, 0 ≤ k ∧ k < (s.nodes.length : Int)) : ∀ (m : Nat) (v : VT), SizeOf.sizeOf v ≤ m → v.sm 1000000 → ∀ (a : Int), 0 ≤ a → a < (s.nodes.length : Int) → Told Tryz.prog 52 [s.av, .c (.v (.int .i64 a)), v.av] (.c (.v (.bool (isM s.nodes a v)))) := by
  intro m
  induction m with
  | zero => intro v hv; cases v; simp at hv
  | succ m ih =>
  intro v hv hsm a ha0 ha
  cases v with
  | mk k n b t xs ks =>
  obtain ⟨nd, hnd⟩ : ∃ nd, s.nodes[a.toNat]? = some nd := ⟨s.nodes[a.toNat]'(by omega), List.getElem?_eq_getElem (by omega)⟩
  have hnp : (s.nodes.map NT.cells)[a.toNat]? = some nd.cells := by rw [List.getElem?_map, hnd]; rfl
  have hkn := hkd nd (List.mem_of_getElem? hnd)
  obtain ⟨V, hV⟩ : ∃ V, V = isM s.nodes a (.mk k n b t xs ks) := ⟨_, rfl⟩
  rw [← hV]
  rw [isM_eq hnd] at hV
  obtain ⟨⟨hb0, hb1⟩, hs1, hs2, hs3, hs4, hs5⟩ := hsm
  have hit : ∀ (i : Nat) (x : VT), xs[i]? = some x → ∀ (f : Int), 0 ≤ f → f < (s.nodes.length : Int) → Told Tryz.prog 52 [s.av, .c (.v (.int .i64 f)), x.av] (.c (.v (.bool (isM s.nodes f x)))) := fun i x hx f h1 h2 => ih x (by
    have h3 := List.sizeOf_lt_of_mem (List.mem_of_getElem? hx)
    simp at hv
    omega) (vsmL_mem hs5 x (List.mem_of_getElem? hx)) f h1 h2
  have hB := vbare_told k n b t xs ks
  rw [VT.av_eq, vcells_mk] at hB
  have hR := uright_told t (by omega)
  have hKy := vkeyed_told ks hs3
  clear ih hkd
  obtain ⟨nk, a1, a2, a3, a4, a5, a6, a7, a8, a9⟩ := nd
  rw [VT.av_eq, vcells_mk, ST.av_eq, scells_mk]
  rw [ncells_mk] at hnp
  refine VC.told ent_52 Tryz.func52 rfl Tryz.ntmps52 (by simp) (by first | rfl | simp [AV.pureB, AV.pureL, pureL_c, pures]) (by first | rfl | simp [AV.pureB, AV.pureL, pureL_c, pures]) fun hb => ?_
  clear hb
  refine walkGF (hnp) ?_
  refine walkD (hB) ?_
  refine walkGF (@bytePV_len) ?_
  unfold headM at hV
  simp only [] at hV
  obtain ⟨bv, hbv⟩ : ∃ bv, bv = vbare k n b t xs.length ks := ⟨_, rfl⟩
  rw [← hbv] at hV ⊢
  refine VC.cond (by rfl) (by trivial) (fun hc => ?_) (fun hc => ?_)
  · have hh : (k == nk && (bv && decide (t.length ≤ 20000))) = false := by
      rw [Bool.eq_false_iff]
      intro h
      simp only [Bool.and_eq_true, beq_iff_eq, decide_eq_true_eq] at h
      obtain ⟨rfl, rfl, h⟩ := h
      simp at hc
      omega
    obtain rfl : V = false := by rw [hV, hh]; rfl
    refine walkG ?_
    refine ⟨by first | exact .inr rfl | exact .inl rfl, ?_⟩; rw [Tryz.results52]; simp only [resOk, resV, go_sem, Int.reduceBEq, Int.reduceLE, Int.reduceLT, Int.reduceNeg, Nat.reduceAdd, Nat.reduceEqDiff, Nat.reduceLT, Nat.reduceLeDiff, Nat.reduceMul, Nat.reduceSub, reduceCtorEq, ↓reduceIte]
    exact .c _
  have hh : (k == nk && (bv && decide (t.length ≤ 20000))) = true := by
    simp at hc
    simp only [Bool.and_eq_true, beq_iff_eq, decide_eq_true_eq]
    exact ⟨hc.1.1, hc.1.2, by omega⟩
  rw [hh, Bool.true_and] at hV
  simp only [Bool.and_eq_true, beq_iff_eq, decide_eq_true_eq] at hh
  obtain ⟨rfl, rfl, hh⟩ := hh
  clear hc hB
  replace hbv := hbv.symm
  refine walkG ?_
  by_cases h2 : k = 2
  · subst h2
    obtain rfl : xs = [] := List.length_eq_zero_iff.1 (vbare_items hbv (by decide) (by decide) (by decide) (by decide))
    refine walkB ?_
    refine ⟨by first | exact .inr rfl | exact .inl rfl, ?_⟩; rw [Tryz.results52]; simp only [resOk, resV, go_sem, Int.reduceBEq, Int.reduceLE, Int.reduceLT, Int.reduceNeg, Nat.reduceAdd, Nat.reduceEqDiff, Nat.reduceLT, Nat.reduceLeDiff, Nat.reduceMul, Nat.reduceSub, reduceCtorEq, ↓reduceIte]
    refine frz_c ?_
    rw [hV, eachM]
    simp
  by_cases h3 : k = 3
  · subst h3
    obtain rfl : xs = [] := List.length_eq_zero_iff.1 (vbare_items hbv (by decide) (by decide) (by decide) (by decide))
    refine walkB ?_
    refine ⟨by first | exact .inr rfl | exact .inl rfl, ?_⟩; rw [Tryz.results52]; simp only [resOk, resV, go_sem, Int.reduceBEq, Int.reduceLE, Int.reduceLT, Int.reduceNeg, Nat.reduceAdd, Nat.reduceEqDiff, Nat.reduceLT, Nat.reduceLeDiff, Nat.reduceMul, Nat.reduceSub, reduceCtorEq, ↓reduceIte]
    refine frz_c ?_
    rw [hV, eachM]
    simp
  by_cases h5 : k = 5
  · subst h5
    obtain rfl : xs = [] := List.length_eq_zero_iff.1 (vbare_items hbv (by decide) (by decide) (by decide) (by decide))
    refine walkB ?_
    refine ⟨by first | exact .inr rfl | exact .inl rfl, ?_⟩; rw [Tryz.results52]; simp only [resOk, resV, go_sem, Int.reduceBEq, Int.reduceLE, Int.reduceLT, Int.reduceNeg, Nat.reduceAdd, Nat.reduceEqDiff, Nat.reduceLT, Nat.reduceLeDiff, Nat.reduceMul, Nat.reduceSub, reduceCtorEq, ↓reduceIte]
    refine frz_c ?_
    rw [hV, eachM, shr32 b hb0]
    simp
  by_cases h8 : k = 8
  · subst h8
    obtain rfl : xs = [] := List.length_eq_zero_iff.1 (vbare_items hbv (by decide) (by decide) (by decide) (by decide))
    refine walkB ?_
    refine walkC (hR) ?_
    refine walkG ?_
    refine ⟨by first | exact .inr rfl | exact .inl rfl, ?_⟩; rw [Tryz.results52]; simp only [resOk, resV, go_sem, Int.reduceBEq, Int.reduceLE, Int.reduceLT, Int.reduceNeg, Nat.reduceAdd, Nat.reduceEqDiff, Nat.reduceLT, Nat.reduceLeDiff, Nat.reduceMul, Nat.reduceSub, reduceCtorEq, ↓reduceIte]
    refine frz_c ?_
    rw [hV, eachM]
    simp
  by_cases h14 : k = 14
  · subst h14
    obtain rfl : xs = [] := List.length_eq_zero_iff.1 (vbare_items hbv (by decide) (by decide) (by decide) (by decide))
    refine walkBF (@bytePV_len) ?_
    refine ⟨by first | exact .inr rfl | exact .inl rfl, ?_⟩; rw [Tryz.results52]; simp only [resOk, resV, go_sem, Int.reduceBEq, Int.reduceLE, Int.reduceLT, Int.reduceNeg, Nat.reduceAdd, Nat.reduceEqDiff, Nat.reduceLT, Nat.reduceLeDiff, Nat.reduceMul, Nat.reduceSub, reduceCtorEq, ↓reduceIte]
    refine frz_c ?_
    rw [hV, eachM]
    simp
  by_cases h10 : k = 10
  · subst h10
    obtain rfl : xs = [] := List.length_eq_zero_iff.1 (vbare_items hbv (by decide) (by decide) (by decide) (by decide))
    refine walkB ?_
    refine ⟨by first | exact .inr rfl | exact .inl rfl, ?_⟩; rw [Tryz.results52]; simp only [resOk, resV, go_sem, Int.reduceBEq, Int.reduceLE, Int.reduceLT, Int.reduceNeg, Nat.reduceAdd, Nat.reduceEqDiff, Nat.reduceLT, Nat.reduceLeDiff, Nat.reduceMul, Nat.reduceSub, reduceCtorEq, ↓reduceIte]
    refine frz_c ?_
    rw [hV, eachM]
    simp
  by_cases h9 : k = 9
  · subst h9
    have hkn9 : ∀ i, i < a3.length → 0 ≤ typeAt ⟨9, a1, a2, a3, a4, a5, a6, a7, a8, a9⟩ i ∧ typeAt ⟨9, a1, a2, a3, a4, a5, a6, a7, a8, a9⟩ i < (s.nodes.length : Int) := by
      intro i hi
      rw [typeAt]
      simp only [List.getElem?_eq_getElem hi]
      exact hkn _ (by rw [kidsN, if_pos rfl]; exact List.mem_map.2 ⟨_, List.getElem_mem hi, rfl⟩)
    by_cases hlen : xs.length = a3.length
    · have hE := each_told s xs hs4 (typeAt ⟨9, a1, a2, a3, a4, a5, a6, a7, a8, a9⟩) 92 (NT.cells ⟨9, a1, a2, a3, a4, a5, a6, a7, a8, a9⟩) (fun i hi => conf1_told _ i (by simp only []; omega)) fun i x hx => hit i x hx _ (hkn9 i (by have := (List.getElem?_eq_some_iff.1 hx).1; omega)).1 (hkn9 i (by have := (List.getElem?_eq_some_iff.1 hx).1; omega)).2
      have hle : ((xs.length : Int) == (a3.length : Int)) = true := by simp; omega
      rw [show itemAt ⟨9, a1, a2, a3, a4, a5, a6, a7, a8, a9⟩ n = typeAt ⟨9, a1, a2, a3, a4, a5, a6, a7, a8, a9⟩ from by funext i; simp [itemAt]] at hV
      generalize eachM s.nodes (typeAt ⟨9, a1, a2, a3, a4, a5, a6, a7, a8, a9⟩) xs = E at hE hV
      simp only [ST.av_eq, scells_mk, List.map_cons, List.map_nil] at hE
      refine walkBF (hle) ?_
      (refine AO.step fun K hK => ?_; simp only [go_sem, Int.reduceBEq, Int.reduceLE, Int.reduceLT, Int.reduceNeg, Nat.reduceAdd, Nat.reduceEqDiff, Nat.reduceLT, Nat.reduceLeDiff, Nat.reduceMul, Nat.reduceSub, reduceCtorEq, ↓reduceIte]; (first | refine gsel_go ?_ | skip))
      refine .inr (.inl ⟨.c (.v (.bool (E && decide (xs.length ≤ 300)))), [.agg [.c (.sl 10 (s.nodes.map NT.cells)), .c (.v (.int .i64 s.root))], .c (.sl 6 (xs.map VT.cells)), .fn (.func 92) [] [.pp (NT.cells ⟨9, a1, a2, a3, a4, a5, a6, a7, a8, a9⟩)]], [64], ⟨by rfl, rfl, fun k x z h5 h6 => ?_, rfl, hE⟩, hK _ _ _ ?_⟩)
      · match k with
        | 0 => obtain rfl := Option.some.inj h5; obtain rfl := Option.some.inj h6; exact .same _
        | 1 => obtain rfl := Option.some.inj h5; obtain rfl := Option.some.inj h6; exact .same _
        | 2 =>
          obtain rfl := Option.some.inj h5
          obtain rfl := Option.some.inj h6
          exact view_fn1 (View.ref (es := NT.cells ⟨9, a1, a2, a3, a4, a5, a6, a7, a8, a9⟩) rfl rfl rfl rfl)
        | k + 3 => simp at h5
      clear hK K
      refine walkG ?_
      refine ⟨by first | exact .inr rfl | exact .inl rfl, ?_⟩; rw [Tryz.results52]; simp only [resOk, resV, go_sem, Int.reduceBEq, Int.reduceLE, Int.reduceLT, Int.reduceNeg, Nat.reduceAdd, Nat.reduceEqDiff, Nat.reduceLT, Nat.reduceLeDiff, Nat.reduceMul, Nat.reduceSub, reduceCtorEq, ↓reduceIte]
      refine frz_c ?_
      rw [hV]
      simp [hlen, Bool.and_comm]
    · have hle : ((xs.length : Int) == (a3.length : Int)) = false := by simp; omega
      refine walkBF (hle) ?_
      refine ⟨by first | exact .inr rfl | exact .inl rfl, ?_⟩; rw [Tryz.results52]; simp only [resOk, resV, go_sem, Int.reduceBEq, Int.reduceLE, Int.reduceLT, Int.reduceNeg, Nat.reduceAdd, Nat.reduceEqDiff, Nat.reduceLT, Nat.reduceLeDiff, Nat.reduceMul, Nat.reduceSub, reduceCtorEq, ↓reduceIte]
      refine frz_c ?_
      rw [hV]
      simp [hlen]
  by_cases h12 : k = 12
  · subst h12
    have hki := hkn a8 (by rw [kidsN, if_neg (by simp), if_pos (by simp)]; simp)
    have hE := each_told s xs hs4 (fun _ => a8) 94 (NT.cells ⟨12, a1, a2, a3, a4, a5, a6, a7, a8, a9⟩) (fun i _ => conf2_told ⟨12, a1, a2, a3, a4, a5, a6, a7, a8, a9⟩ i) fun i x hx => hit i x hx a8 hki.1 hki.2
    rw [show itemAt ⟨12, a1, a2, a3, a4, a5, a6, a7, a8, a9⟩ n = fun _ => a8 from by funext i; simp [itemAt]] at hV
    generalize eachM s.nodes (fun _ => a8) xs = E at hE hV
    simp only [ST.av_eq, scells_mk, List.map_cons, List.map_nil] at hE
    by_cases hlen : ks.length = xs.length
    · have hle : ((ks.length : Int) != (xs.length : Int)) = false := by simp; omega
      rw [show (ks.length == xs.length) = true by simpa using hlen, Bool.true_and] at hV
      generalize ks.all keyM = bk at hKy hV
      refine walkBF (hle) ?_
      refine walkC (hKy) ?_
      refine walkG ?_
      cases bk with
      | false =>
        refine walkB ?_
        refine ⟨by first | exact .inr rfl | exact .inl rfl, ?_⟩; rw [Tryz.results52]; simp only [resOk, resV, go_sem, Int.reduceBEq, Int.reduceLE, Int.reduceLT, Int.reduceNeg, Nat.reduceAdd, Nat.reduceEqDiff, Nat.reduceLT, Nat.reduceLeDiff, Nat.reduceMul, Nat.reduceSub, reduceCtorEq, ↓reduceIte]
        refine frz_c ?_
        rw [hV]
        simp
      | true =>
        refine walkB ?_
        (refine AO.step fun K hK => ?_; simp only [go_sem, Int.reduceBEq, Int.reduceLE, Int.reduceLT, Int.reduceNeg, Nat.reduceAdd, Nat.reduceEqDiff, Nat.reduceLT, Nat.reduceLeDiff, Nat.reduceMul, Nat.reduceSub, reduceCtorEq, ↓reduceIte]; (first | refine gsel_go ?_ | skip))
        refine .inr (.inl ⟨.c (.v (.bool (E && decide (xs.length ≤ 300)))), [.agg [.c (.sl 10 (s.nodes.map NT.cells)), .c (.v (.int .i64 s.root))], .c (.sl 6 (xs.map VT.cells)), .fn (.func 94) [] [.pp (NT.cells ⟨12, a1, a2, a3, a4, a5, a6, a7, a8, a9⟩)]], [64], ⟨by rfl, rfl, fun k x z h5 h6 => ?_, rfl, hE⟩, hK _ _ _ ?_⟩)
        · match k with
          | 0 => obtain rfl := Option.some.inj h5; obtain rfl := Option.some.inj h6; exact .same _
          | 1 => obtain rfl := Option.some.inj h5; obtain rfl := Option.some.inj h6; exact .same _
          | 2 =>
            obtain rfl := Option.some.inj h5
            obtain rfl := Option.some.inj h6
            exact view_fn1 (View.ref (es := NT.cells ⟨12, a1, a2, a3, a4, a5, a6, a7, a8, a9⟩) rfl rfl rfl rfl)
          | k + 3 => simp at h5
        clear hK K
        refine walkG ?_
        refine ⟨by first | exact .inr rfl | exact .inl rfl, ?_⟩; rw [Tryz.results52]; simp only [resOk, resV, go_sem, Int.reduceBEq, Int.reduceLE, Int.reduceLT, Int.reduceNeg, Nat.reduceAdd, Nat.reduceEqDiff, Nat.reduceLT, Nat.reduceLeDiff, Nat.reduceMul, Nat.reduceSub, reduceCtorEq, ↓reduceIte]
        refine frz_c ?_
        rw [hV]
        simp [Bool.and_comm]
    · have hle : ((ks.length : Int) != (xs.length : Int)) = true := by simp; omega
      refine walkBF (hle) ?_
      refine ⟨by first | exact .inr rfl | exact .inl rfl, ?_⟩; rw [Tryz.results52]; simp only [resOk, resV, go_sem, Int.reduceBEq, Int.reduceLE, Int.reduceLT, Int.reduceNeg, Nat.reduceAdd, Nat.reduceEqDiff, Nat.reduceLT, Nat.reduceLeDiff, Nat.reduceMul, Nat.reduceSub, reduceCtorEq, ↓reduceIte]
      refine frz_c ?_
      rw [hV]
      simp [hlen]
  by_cases h11 : k = 11
  · subst h11
    have hki := hkn a8 (by rw [kidsN, if_neg (by simp), if_pos (by simp)]; simp)
    have hE := each_told s xs hs4 (fun _ => a8) 94 (NT.cells ⟨11, a1, a2, a3, a4, a5, a6, a7, a8, a9⟩) (fun i _ => conf2_told ⟨11, a1, a2, a3, a4, a5, a6, a7, a8, a9⟩ i) fun i x hx => hit i x hx a8 hki.1 hki.2
    rw [show itemAt ⟨11, a1, a2, a3, a4, a5, a6, a7, a8, a9⟩ n = fun _ => a8 from by funext i; simp [itemAt]] at hV
    generalize eachM s.nodes (fun _ => a8) xs = E at hE hV
    simp only [ST.av_eq, scells_mk, List.map_cons, List.map_nil] at hE
    refine walkB ?_
    (refine AO.step fun K hK => ?_; simp only [go_sem, Int.reduceBEq, Int.reduceLE, Int.reduceLT, Int.reduceNeg, Nat.reduceAdd, Nat.reduceEqDiff, Nat.reduceLT, Nat.reduceLeDiff, Nat.reduceMul, Nat.reduceSub, reduceCtorEq, ↓reduceIte]; (first | refine gsel_go ?_ | skip))
    refine .inr (.inl ⟨.c (.v (.bool (E && decide (xs.length ≤ 300)))), [.agg [.c (.sl 10 (s.nodes.map NT.cells)), .c (.v (.int .i64 s.root))], .c (.sl 6 (xs.map VT.cells)), .fn (.func 94) [] [.pp (NT.cells ⟨11, a1, a2, a3, a4, a5, a6, a7, a8, a9⟩)]], [64], ⟨by rfl, rfl, fun k x z h5 h6 => ?_, rfl, hE⟩, hK _ _ _ ?_⟩)
    · match k with
      | 0 => obtain rfl := Option.some.inj h5; obtain rfl := Option.some.inj h6; exact .same _
      | 1 => obtain rfl := Option.some.inj h5; obtain rfl := Option.some.inj h6; exact .same _
      | 2 =>
        obtain rfl := Option.some.inj h5
        obtain rfl := Option.some.inj h6
        exact view_fn1 (View.ref (es := NT.cells ⟨11, a1, a2, a3, a4, a5, a6, a7, a8, a9⟩) rfl rfl rfl rfl)
      | k + 3 => simp at h5
    clear hK K
    refine walkG ?_
    refine ⟨by first | exact .inr rfl | exact .inl rfl, ?_⟩; rw [Tryz.results52]; simp only [resOk, resV, go_sem, Int.reduceBEq, Int.reduceLE, Int.reduceLT, Int.reduceNeg, Nat.reduceAdd, Nat.reduceEqDiff, Nat.reduceLT, Nat.reduceLeDiff, Nat.reduceMul, Nat.reduceSub, reduceCtorEq, ↓reduceIte]
    refine frz_c ?_
    rw [hV]
    simp [Bool.and_comm]
  by_cases h13 : k = 13
  · subst h13
    by_cases hg : (0 ≤ n ∧ n < (a9.length : Int)) ∧ xs.length = 1
    · obtain ⟨⟨hg1, hg2⟩, hg3⟩ := hg
      obtain ⟨x, rfl⟩ := List.length_eq_one_iff.1 hg3
      have hnl : n.toNat < a9.length := by omega
      obtain ⟨q, hq⟩ : ∃ q, a9[n.toNat]? = some q := ⟨a9[n.toNat], List.getElem?_eq_getElem hnl⟩
      have hqp : (a9.map iPV)[n.toNat]? = some (iPV q) := by rw [List.getElem?_map, hq]; rfl
      have hki := hkn q (by rw [kidsN, if_neg (by simp), if_neg (by simp), if_pos rfl]; exact List.mem_of_getElem? hq)
      have hX := hit 0 x rfl q hki.1 hki.2
      have e1 : decide (n ≥ 0) = true := by simpa using hg1
      have e2 : decide (n < (a9.length : Int)) = true := by simpa using hg2
      have hv2 : V = isM s.nodes q x := by
        have hib : itemAt ⟨13, a1, a2, a3, a4, a5, a6, a7, a8, a9⟩ n 0 = q := by
          show (if (13 : Int) = 9 then _ else if (13 : Int) = 13 then branchAt _ n else _) = q
          rw [if_neg (by decide), if_pos rfl, branchAt]
          simp only [hq]
        rw [hV, eachM, eachM, hib]
        simp [hg1, hg2]
      clear hV
      generalize isM s.nodes q x = E at hX hv2
      simp only [ST.av_eq, VT.av_eq, scells_mk, List.map_cons, List.map_nil] at hX
      refine walkBF (And.intro e1 (And.intro e2 (And.intro hqp (And.intro @iPV_eq (And.intro @len_vcells (And.intro @take_vcells @take_vcellsC)))))) ?_
      refine walkCF (@pureL_c) (hX) ?_
      refine walkG ?_
      refine ⟨by first | exact .inr rfl | exact .inl rfl, ?_⟩; rw [Tryz.results52]; simp only [resOk, resV, go_sem, Int.reduceBEq, Int.reduceLE, Int.reduceLT, Int.reduceNeg, Nat.reduceAdd, Nat.reduceEqDiff, Nat.reduceLT, Nat.reduceLeDiff, Nat.reduceMul, Nat.reduceSub, reduceCtorEq, ↓reduceIte]
      rw [hv2]
      exact .c _
    · have hvf : V = false := by
        have : (decide (0 ≤ n) && (decide (n < (a9.length : Int)) && xs.length == 1)) = false := by
          rw [Bool.eq_false_iff]
          intro h
          simp only [Bool.and_eq_true, decide_eq_true_eq, beq_iff_eq] at h
          exact hg ⟨⟨h.1, h.2.1⟩, h.2.2⟩
        rw [hV]
        simp only [Int.reduceEq, if_false, if_true]
        rw [this]
        rfl
      clear hV
      by_cases hg1 : 0 ≤ n
      · have e1 : decide (n ≥ 0) = true := by simpa using hg1
        by_cases hg2 : n < (a9.length : Int)
        · have e2 : decide (n < (a9.length : Int)) = true := by simpa using hg2
          have e3 : ((xs.length : Int) == 1) = false := by
            simp only [beq_eq_false_iff_ne]
            intro h
            exact hg ⟨⟨hg1, hg2⟩, by omega⟩
          refine walkBF (And.intro e1 (And.intro e2 e3)) ?_
          refine ⟨by first | exact .inr rfl | exact .inl rfl, ?_⟩; rw [Tryz.results52]; simp only [resOk, resV, go_sem, Int.reduceBEq, Int.reduceLE, Int.reduceLT, Int.reduceNeg, Nat.reduceAdd, Nat.reduceEqDiff, Nat.reduceLT, Nat.reduceLeDiff, Nat.reduceMul, Nat.reduceSub, reduceCtorEq, ↓reduceIte]
          rw [hvf]
          exact .c _
        · have e2 : decide (n < (a9.length : Int)) = false := by simpa using hg2
          refine walkBF (And.intro e1 e2) ?_
          refine ⟨by first | exact .inr rfl | exact .inl rfl, ?_⟩; rw [Tryz.results52]; simp only [resOk, resV, go_sem, Int.reduceBEq, Int.reduceLE, Int.reduceLT, Int.reduceNeg, Nat.reduceAdd, Nat.reduceEqDiff, Nat.reduceLT, Nat.reduceLeDiff, Nat.reduceMul, Nat.reduceSub, reduceCtorEq, ↓reduceIte]
          rw [hvf]
          exact .c _
      · have e1 : decide (n ≥ 0) = false := by simpa using hg1
        refine walkBF (e1) ?_
        refine ⟨by first | exact .inr rfl | exact .inl rfl, ?_⟩; rw [Tryz.results52]; simp only [resOk, resV, go_sem, Int.reduceBEq, Int.reduceLE, Int.reduceLT, Int.reduceNeg, Nat.reduceAdd, Nat.reduceEqDiff, Nat.reduceLT, Nat.reduceLeDiff, Nat.reduceMul, Nat.reduceSub, reduceCtorEq, ↓reduceIte]
        rw [hvf]
        exact .c _
  have e2 : (k == 2) = false := by simpa using h2
  have e3 : (k == 3) = false := by simpa using h3
  have e5 : (k == 5) = false := by simpa using h5
  have e8 : (k == 8) = false := by simpa using h8
  have e14 : (k == 14) = false := by simpa using h14
  have e10 : (k == 10) = false := by simpa using h10
  have e9 : (k == 9) = false := by simpa using h9
  have e12 : (k == 12) = false := by simpa using h12
  have e11 : (k == 11) = false := by simpa using h11
  have e13 : (k == 13) = false := by simpa using h13
  obtain rfl : xs = [] := List.length_eq_zero_iff.1 (vbare_items hbv h9 h11 h12 h13)
  rw [e2]
  refine walkBF (And.intro e2 (And.intro e3 (And.intro e5 (And.intro e8 (And.intro e14 (And.intro e10 (And.intro e9 (And.intro e12 (And.intro e11 e13))))))))) ?_
  refine ⟨by first | exact .inr rfl | exact .inl rfl, ?_⟩; rw [Tryz.results52]; simp only [resOk, resV, go_sem, Int.reduceBEq, Int.reduceLE, Int.reduceLT, Int.reduceNeg, Nat.reduceAdd, Nat.reduceEqDiff, Nat.reduceLT, Nat.reduceLeDiff, Nat.reduceMul, Nat.reduceSub, reduceCtorEq, ↓reduceIte]
  refine frz_c ?_
  rw [hV, eachM]
  simp [h2, h3, h5, h8, h14, h10, h9, h12, h11, h13]

def partV (k n b : Int) (s : List UInt8) (xs : List VT) (ks : List (List UInt8)) : VT :=
  .mk k (if k = 2 ∨ k = 3 ∨ k = 4 ∨ k = 10 ∨ k = 13 then n else 0) (if k = 5 ∨ k = 6 then b else 0) (if k = 7 ∨ k = 8 ∨ k = 14 then s else []) (if k = 9 ∨ k = 11 ∨ k = 12 ∨ k = 13 then xs else []) (if k = 12 then ks else [])
theorem vbare_part (k n b : Int) (s : List UInt8) (xs : List VT) (ks : List (List UInt8)) : vbare k n b s xs.length ks =
    ((((((if k = 2 ∨ k = 3 ∨ k = 4 ∨ k = 10 ∨ k = 13 then n else 0) == n) && ((if k = 5 ∨ k = 6 then b else 0) == b)) && (((if k = 7 ∨ k = 8 ∨ k = 14 then s else []).length : Int) == (s.length : Int))) && (((if k = 9 ∨ k = 11 ∨ k = 12 ∨ k = 13 then xs else []).length : Int) == (xs.length : Int))) &&
    (((if k = 12 then ks else []).length : Int) == (ks.length : Int))) := by
  have e0 : ∀ x : Int, ((0 : Int) == x) = (x == 0) := fun x => BEq.comm
  have e1 : ∀ {α : Type} (l : List α), (((([] : List α).length : Nat) : Int) == (l.length : Int)) = l.isEmpty := fun l => by
    cases l with
    | nil => rfl
    | cons x l => simp; omega
  unfold vbare
  have c1 : (k == 2 || k == 3 || k == 4 || k == 10 || k == 13) = decide (k = 2 ∨ k = 3 ∨ k = 4 ∨ k = 10 ∨ k = 13) := by rw [Bool.eq_iff_iff]; simp [or_assoc]
  have c2 : (k == 5 || k == 6) = decide (k = 5 ∨ k = 6) := by rw [Bool.eq_iff_iff]; simp
  have c3 : (k == 7 || k == 8 || k == 14) = decide (k = 7 ∨ k = 8 ∨ k = 14) := by rw [Bool.eq_iff_iff]; simp [or_assoc]
  have c4 : (k == 9 || k == 11 || k == 12 || k == 13) = decide (k = 9 ∨ k = 11 ∨ k = 12 ∨ k = 13) := by rw [Bool.eq_iff_iff]; simp [or_assoc]
  have c5 : (k == 12) = decide (k = 12) := by rw [Bool.eq_iff_iff]; simp
  rw [c1, c2, c3, c4, c5]
  have d1 : ∀ (p : Prop) [Decidable p] (x : Int), (decide p || x == 0) = ((if p then x else 0) == x) := fun p _ x => by
    by_cases h : p
    · simp [h]
    · simp [h, e0]
  have d2 : ∀ (p : Prop) [Decidable p] {α : Type} (l : List α), (decide p || l.isEmpty) = (((if p then l else []).length : Int) == (l.length : Int)) := fun p _ α l => by
    by_cases h : p
    · simp [h]
    · rw [if_neg h, e1, decide_eq_false h, Bool.false_or]
  have d3 : (xs.length == 0) = xs.isEmpty := by cases xs <;> simp
  rw [d3, d1, d1, d2, d2, d2]
  simp only [Bool.and_assoc]
theorem rtext11_told (l : List UInt8) (hbig : l.length ≤ 1000000) : Told Tryz.prog 100 [.c (.sl 1 (bytePV l))] (.c (.v (.bool (isRight l)))) := by
  obtain ⟨Z, hC, hd⟩ := rcount3_told l hbig
  refine VC.told ent_100 Tryz.func100 rfl Tryz.ntmps100 (by simp) (by first | rfl | simp [AV.pureB, AV.pureL, pureL_c, pures]) (by first | rfl | simp [AV.pureB, AV.pureL, pureL_c, pures]) fun hb => ?_
  clear hb
  refine walkG ?_
  refine walkC (hC) ?_
  refine walkGF (hd) ?_
  refine ⟨by first | exact .inr rfl | exact .inl rfl, ?_⟩; rw [Tryz.results100]; simp only [resOk, resV, go_sem, Int.reduceBEq, Int.reduceLE, Int.reduceLT, Int.reduceNeg, Nat.reduceAdd, Nat.reduceEqDiff, Nat.reduceLT, Nat.reduceLeDiff, Nat.reduceMul, Nat.reduceSub, reduceCtorEq, ↓reduceIte]
  exact .c _
theorem i32_range (n : Int) : (IntKind.i64.wrap (IntKind.i32.wrap n) == n) = (decide (-2147483648 ≤ n) && decide (n ≤ 2147483647)) := by
  rw [IntKind.wrap_i32, IntKind.wrap_i64, Bool.eq_iff_iff]
  simp
  omega
set_option maxRecDepth 100000 in
set_option maxHeartbeats 6400000 in
theorem ris_told (s : ST) (hkd : ∀ n ∈ s.nodes, ∀ k ∈ kidsN n, 0 ≤ k ∧ k < (s.nodes.length : Int)) : ∀ (m : Nat) (v : VT), SizeOf.sizeOf v ≤ m → v.sm 1000000 → ∀ (a : Int), 0 ≤ a → a < (s.nodes.length : Int) → Told Tryz.prog 54 [s.av, .c (.v (.int .i64 a)), v.av] (.c (.v (.bool (isM s.nodes a v)))) := by
  intro m
  induction m with
  | zero => intro v hv; cases v; simp at hv
  | succ m ih =>
  intro v hv hsm a ha0 ha
  cases v with
  | mk k n b t xs ks =>
  obtain ⟨nd, hnd⟩ : ∃ nd, s.nodes[a.toNat]? = some nd := ⟨s.nodes[a.toNat]'(by omega), List.getElem?_eq_getElem (by omega)⟩
  have hnp : (s.nodes.map NT.cells)[a.toNat]? = some nd.cells := by rw [List.getElem?_map, hnd]; rfl
  have hkn := hkd nd (List.mem_of_getElem? hnd)
  obtain ⟨V, hV⟩ : ∃ V, V = isM s.nodes a (.mk k n b t xs ks) := ⟨_, rfl⟩
  rw [← hV]
  rw [isM_eq hnd] at hV
  obtain ⟨⟨hb0, hb1⟩, hs1, hs2, hs3, hs4, hs5⟩ := hsm
  have hit : ∀ (i : Nat) (x : VT), xs[i]? = some x → ∀ (f : Int), 0 ≤ f → f < (s.nodes.length : Int) → Told Tryz.prog 54 [s.av, .c (.v (.int .i64 f)), x.av] (.c (.v (.bool (isM s.nodes f x)))) := fun i x hx f h1 h2 => ih x (by
    have h3 := List.sizeOf_lt_of_mem (List.mem_of_getElem? hx)
    simp at hv
    omega) (vsmL_mem hs5 x (List.mem_of_getElem? hx)) f h1 h2
  have hR := rtext11_told t (by omega)
  have hbp := vbare_part k n b t xs ks
  obtain ⟨bv, hbv⟩ : ∃ bv, bv = vbare k n b t xs.length ks := ⟨_, rfl⟩
  unfold headM at hV
  rw [← hbv] at hV hbp
  clear ih hkd
  rw [VT.av_eq, vcells_mk, ST.av_eq, scells_mk]
  have hnp2 := hnp
  rw [ncells_mk] at hnp2
  refine VC.told ent_54 Tryz.func54 rfl Tryz.ntmps54 (by simp) (by first | rfl | simp [AV.pureB, AV.pureL, pureL_c, pures]) (by first | rfl | simp [AV.pureB, AV.pureL, pureL_c, pures]) fun hb => ?_
  clear hb
  refine walkGF (And.intro hnp2 (And.intro @ncells_mk @bytePV_len)) ?_
  refine VC.cond (by rfl) (by trivial) (fun hc => ?_) (fun hc => ?_)
  · have hf : V = false := by
      have hcc : k ≠ nd.kind ∨ 20000 < t.length ∨ 300 < xs.length := by
        simp at hc
        omega
      rw [hV, Bool.eq_false_iff]
      intro h
      simp only [Bool.and_eq_true, beq_iff_eq, decide_eq_true_eq] at h
      obtain ⟨⟨⟨h1, h2, h3⟩, h4⟩, h5⟩ := h
      have h300 : 300 < xs.length := by omega
      subst h2
      have hvb := hbv.symm
      by_cases q9 : k = 9
      · rw [q9] at h4
        simp at h4
        omega
      by_cases q11 : k = 11
      · rw [q11] at h4
        simp at h4
        omega
      by_cases q12 : k = 12
      · rw [q12] at h4
        simp at h4
        omega
      by_cases q13 : k = 13
      · rw [q13] at h4
        simp at h4
        omega
      have := vbare_items hvb q9 q11 q12 q13
      omega
    subst hf
    refine walkG ?_
    refine ⟨by first | exact .inr rfl | exact .inl rfl, ?_⟩; rw [Tryz.results54]; simp only [resOk, resV, go_sem, Int.reduceBEq, Int.reduceLE, Int.reduceLT, Int.reduceNeg, Nat.reduceAdd, Nat.reduceEqDiff, Nat.reduceLT, Nat.reduceLeDiff, Nat.reduceMul, Nat.reduceSub, reduceCtorEq, ↓reduceIte]
    exact .c _
  obtain ⟨hk, ht2, hx3⟩ : k = nd.kind ∧ t.length ≤ 20000 ∧ xs.length ≤ 300 := by
    simp at hc
    omega
  clear hc
  have hkk : (k == nd.kind && (bv && decide (t.length ≤ 20000))) = bv := by
    rw [hk]
    simp [ht2]
  rw [hkk] at hV
  clear hkk
  have hsimple : k ≠ 9 → k ≠ 11 → k ≠ 12 → k ≠ 13 → ∀ c : Bool, V = ((bv && c) && eachM s.nodes (itemAt nd n) xs) → V = (c && bv) := fun q9 q11 q12 q13 c h => by
    rw [h]
    cases hbb : bv with
    | false => simp
    | true =>
      have := vbare_items (hbv.symm.trans hbb) q9 q11 q12 q13
      rw [List.length_eq_zero_iff.1 this, eachM]
      simp
  refine VC.skip ?_; refine SQ.normal ?_
  (refine VC.seq ?_; (first | refine VC.region (by rfl) (by rfl) ?_ | refine VC.draw mixP (by rfl) (by rfl) ?_); (repeat (refine AO.step fun K hK => ?_; simp only [vcells_mk, ncells_mk, scells_mk, go_sem, Int.reduceBEq, Int.reduceLE, Int.reduceLT, Int.reduceNeg, Nat.reduceAdd, Nat.reduceEqDiff, Nat.reduceLT, Nat.reduceLeDiff, Nat.reduceMul, Nat.reduceSub, reduceCtorEq, ↓reduceIte]; (first | refine gsel_skip ?_ | refine gsel_go ?_ | skip); (first | refine hK _ _ _ ?_ | refine ⟨by first | omega | exact ⟨_, rfl, rfl⟩ | exact fun _ => ⟨_, rfl, rfl⟩ | (intro h; simp only [vcells_mk, ncells_mk, scells_mk, h, true_and]; omega) | (clear hK; intro h; simp_all <;> omega), hK _ _ _ ?_⟩); clear hK K)); refine AO.nil ?_; first | refine SQ.normal ?_ | refine ⟨okd_of (by kernel_rfl), SQ.normal ?_⟩)
  (refine VC.seq ?_; (first | refine VC.region (by rfl) (by rfl) ?_ | refine VC.draw mixP (by rfl) (by rfl) ?_); (repeat (refine AO.step fun K hK => ?_; simp only [vcells_mk, ncells_mk, scells_mk, go_sem, Int.reduceBEq, Int.reduceLE, Int.reduceLT, Int.reduceNeg, Nat.reduceAdd, Nat.reduceEqDiff, Nat.reduceLT, Nat.reduceLeDiff, Nat.reduceMul, Nat.reduceSub, reduceCtorEq, ↓reduceIte]; (first | refine gsel_skip ?_ | refine gsel_go ?_ | skip); (first | refine hK _ _ _ ?_ | refine ⟨by first | omega | exact ⟨_, rfl, rfl⟩ | exact fun _ => ⟨_, rfl, rfl⟩ | (intro h; simp only [vcells_mk, ncells_mk, scells_mk, h, true_and]; omega) | (clear hK; intro h; simp_all <;> omega), hK _ _ _ ?_⟩); clear hK K)); refine AO.nil ?_; first | refine SQ.normal ?_ | refine ⟨okd_of (by kernel_rfl), SQ.normal ?_⟩)
  refine VC.frz [] [(3, .ref 0 1 0 0), (5, .ref 8 1 0 0), (7, .ref 64 1 0 0), (8, .ref 240 1 0 0), (9, .c (.v (.bool true)))] [(0, ⟨false, 24, 2, [s.cells.map .c]⟩), (8, ⟨false, 43, 6, [(VT.mk k n b t xs ks).cells.map .c]⟩), (64, ⟨false, 33, 10, [nd.cells.map .c]⟩), (240, ⟨false, 43, 6, [(VT.mk k 0 0 [] [] []).cells.map .c]⟩)] 400 ?_ ?_
  · simp only [vcells_mk, ncells_mk, scells_mk, WeakF, used_is, sc_any, sc_c, sc_pp, sc_ref, sc_row, sc_agg, sc_fn, ScL, some_imp, List.forall_mem_map, go_sem, Int.reduceBEq, Int.reduceLE, Int.reduceLT, Int.reduceNeg, Nat.reduceAdd, Nat.reduceEqDiff, Nat.reduceLT, Nat.reduceLeDiff, Nat.reduceMul, Nat.reduceSub, reduceCtorEq, ↓reduceIte]
    exact ⟨⟨.same _, .same _, .same _, .same _, .same _⟩, .same _, .same _, .same _, .one (.cons (.same _) (.cons (.same _) (.cons (.same _) (.cons (.nil 1) (.cons (.nil 6) (.cons (.nil 1) .nil)))))) (by simp [AV.cellish])⟩
  refine VC.seq ?_
  refine VC.meetF (ι := {ok : Bool // V = (ok && bv)}) (fun q => [(3, .ref 0 1 0 0), (5, .ref 8 1 0 0), (7, .ref 64 1 0 0), (8, .ref 240 1 0 0), (9, .c (.v (.bool q.1)))]) (fun _ => [(0, ⟨false, 24, 2, [s.cells.map .c]⟩), (8, ⟨false, 43, 6, [(VT.mk k n b t xs ks).cells.map .c]⟩), (64, ⟨false, 33, 10, [nd.cells.map .c]⟩), (240, ⟨false, 43, 6, [(partV k n b t xs ks).cells.map .c]⟩)]) 20000 ?_ ?_
  rotate_left
  · rintro ⟨ok, hok⟩
    simp only [partV]
    refine walkGF (And.intro @vcells_mk (And.intro @ncells_mk (And.intro @scells_mk @bytePV_len))) ?_
    refine ⟨by first | exact .inr rfl | exact .inl rfl, ?_⟩; rw [Tryz.results54]; simp only [resOk, resV, go_sem, Int.reduceBEq, Int.reduceLE, Int.reduceLT, Int.reduceNeg, Nat.reduceAdd, Nat.reduceEqDiff, Nat.reduceLT, Nat.reduceLeDiff, Nat.reduceMul, Nat.reduceSub, reduceCtorEq, ↓reduceIte]
    rw [hok, hbp]
    simp only [Bool.and_assoc]
    exact .c _
  by_cases h2 : nd.kind = 2
  · have hpv : partV k n b t xs ks = .mk k n 0 [] [] [] := by rw [hk, h2]; simp [partV]
    have e2 : (nd.kind == 2) = true := by simpa using h2
    refine walkBF (And.intro @vcells_mk (And.intro @ncells_mk (And.intro @scells_mk e2))) ?_
    refine .normal ⟨_, hsimple (by omega) (by omega) (by omega) (by omega) _ (by rw [hV, hk, if_pos h2])⟩ ?_
    simp only [hpv, vcells_mk, ncells_mk, scells_mk, bytePV_len, Weak, eq_self, used_is, sc_any, sc_c, sc_pp, sc_ref, sc_row, sc_agg, sc_fn, ScL, some_imp, List.forall_mem_map, go_sem, Int.reduceBEq, Int.reduceLE, Int.reduceLT, Int.reduceNeg, Nat.reduceAdd, Nat.reduceEqDiff, Nat.reduceLT, Nat.reduceLeDiff, Nat.reduceMul, Nat.reduceSub, reduceCtorEq, ↓reduceIte]
  have e2 : (nd.kind == 2) = false := by simpa using h2
  by_cases h3 : nd.kind = 3
  · have hpv : partV k n b t xs ks = .mk k n 0 [] [] [] := by rw [hk, h3]; simp [partV]
    have e3 : (nd.kind == 3) = true := by simpa using h3
    refine walkBF (And.intro @vcells_mk (And.intro @ncells_mk (And.intro @scells_mk (And.intro e2 (And.intro e3 @i32_range))))) ?_
    refine .normal ⟨decide (-2147483648 ≤ n) && decide (n ≤ 2147483647), hsimple (by omega) (by omega) (by omega) (by omega) _ (by rw [hV, hk, if_neg h2, if_pos h3])⟩ ?_
    simp only [hpv, vcells_mk, ncells_mk, scells_mk, bytePV_len, Weak, eq_self, used_is, sc_any, sc_c, sc_pp, sc_ref, sc_row, sc_agg, sc_fn, ScL, some_imp, List.forall_mem_map, go_sem, Int.reduceBEq, Int.reduceLE, Int.reduceLT, Int.reduceNeg, Nat.reduceAdd, Nat.reduceEqDiff, Nat.reduceLT, Nat.reduceLeDiff, Nat.reduceMul, Nat.reduceSub, reduceCtorEq, ↓reduceIte]
  have e3 : (nd.kind == 3) = false := by simpa using h3
  by_cases h4 : nd.kind = 4
  · have hpv : partV k n b t xs ks = .mk k n 0 [] [] [] := by rw [hk, h4]; simp [partV]
    have e4 : (nd.kind == 4) = true := by simpa using h4
    refine walkBF (And.intro @vcells_mk (And.intro @ncells_mk (And.intro @scells_mk (And.intro e2 (And.intro e3 e4))))) ?_
    refine .normal ⟨true, hsimple (by omega) (by omega) (by omega) (by omega) true (by rw [hV, hk, if_neg h2, if_neg h3, if_neg (by omega), if_neg (by omega), if_neg (by omega), if_neg (by omega), if_neg (by omega), if_neg (by omega), if_neg (by omega), if_neg (by omega)])⟩ ?_
    simp only [hpv, vcells_mk, ncells_mk, scells_mk, bytePV_len, Weak, eq_self, used_is, sc_any, sc_c, sc_pp, sc_ref, sc_row, sc_agg, sc_fn, ScL, some_imp, List.forall_mem_map, go_sem, Int.reduceBEq, Int.reduceLE, Int.reduceLT, Int.reduceNeg, Nat.reduceAdd, Nat.reduceEqDiff, Nat.reduceLT, Nat.reduceLeDiff, Nat.reduceMul, Nat.reduceSub, reduceCtorEq, ↓reduceIte]
  have e4 : (nd.kind == 4) = false := by simpa using h4
  by_cases h5 : nd.kind = 5
  · have hpv : partV k n b t xs ks = .mk k 0 b [] [] [] := by rw [hk, h5]; simp [partV]
    have e5 : (nd.kind == 5) = true := by simpa using h5
    refine walkBF (And.intro @vcells_mk (And.intro @ncells_mk (And.intro @scells_mk (And.intro e2 (And.intro e3 (And.intro e4 e5)))))) ?_
    refine .normal ⟨decide (b < 4294967296), hsimple (by omega) (by omega) (by omega) (by omega) _ (by rw [hV, hk, if_neg h2, if_neg h3, if_pos h5])⟩ ?_
    simp only [hpv, vcells_mk, ncells_mk, scells_mk, bytePV_len, Weak, eq_self, used_is, sc_any, sc_c, sc_pp, sc_ref, sc_row, sc_agg, sc_fn, ScL, some_imp, List.forall_mem_map, go_sem, Int.reduceBEq, Int.reduceLE, Int.reduceLT, Int.reduceNeg, Nat.reduceAdd, Nat.reduceEqDiff, Nat.reduceLT, Nat.reduceLeDiff, Nat.reduceMul, Nat.reduceSub, reduceCtorEq, ↓reduceIte]
  have e5 : (nd.kind == 5) = false := by simpa using h5
  by_cases h6 : nd.kind = 6
  · have hpv : partV k n b t xs ks = .mk k 0 b [] [] [] := by rw [hk, h6]; simp [partV]
    have e6 : (nd.kind == 6) = true := by simpa using h6
    refine walkBF (And.intro @vcells_mk (And.intro @ncells_mk (And.intro @scells_mk (And.intro e2 (And.intro e3 (And.intro e4 (And.intro e5 e6))))))) ?_
    refine .normal ⟨true, hsimple (by omega) (by omega) (by omega) (by omega) true (by rw [hV, hk, if_neg h2, if_neg h3, if_neg h5, if_neg (by omega), if_neg (by omega), if_neg (by omega), if_neg (by omega), if_neg (by omega), if_neg (by omega), if_neg (by omega)])⟩ ?_
    simp only [hpv, vcells_mk, ncells_mk, scells_mk, bytePV_len, Weak, eq_self, used_is, sc_any, sc_c, sc_pp, sc_ref, sc_row, sc_agg, sc_fn, ScL, some_imp, List.forall_mem_map, go_sem, Int.reduceBEq, Int.reduceLE, Int.reduceLT, Int.reduceNeg, Nat.reduceAdd, Nat.reduceEqDiff, Nat.reduceLT, Nat.reduceLeDiff, Nat.reduceMul, Nat.reduceSub, reduceCtorEq, ↓reduceIte]
  have e6 : (nd.kind == 6) = false := by simpa using h6
  by_cases h7 : nd.kind = 7
  · have hpv : partV k n b t xs ks = .mk k 0 0 t [] [] := by rw [hk, h7]; simp [partV]
    have e7 : (nd.kind == 7) = true := by simpa using h7
    refine walkBF (And.intro @vcells_mk (And.intro @ncells_mk (And.intro @scells_mk (And.intro e2 (And.intro e3 (And.intro e4 (And.intro e5 (And.intro e6 e7)))))))) ?_
    refine .normal ⟨true, hsimple (by omega) (by omega) (by omega) (by omega) true (by rw [hV, hk, if_neg h2, if_neg h3, if_neg h5, if_neg (by omega), if_neg (by omega), if_neg (by omega), if_neg (by omega), if_neg (by omega), if_neg (by omega), if_neg (by omega)])⟩ ?_
    simp only [hpv, vcells_mk, ncells_mk, scells_mk, bytePV_len, Weak, eq_self, used_is, sc_any, sc_c, sc_pp, sc_ref, sc_row, sc_agg, sc_fn, ScL, some_imp, List.forall_mem_map, go_sem, Int.reduceBEq, Int.reduceLE, Int.reduceLT, Int.reduceNeg, Nat.reduceAdd, Nat.reduceEqDiff, Nat.reduceLT, Nat.reduceLeDiff, Nat.reduceMul, Nat.reduceSub, reduceCtorEq, ↓reduceIte]
  have e7 : (nd.kind == 7) = false := by simpa using h7
  by_cases h8 : nd.kind = 8
  · have hpv : partV k n b t xs ks = .mk k 0 0 t [] [] := by rw [hk, h8]; simp [partV]
    have e8 : (nd.kind == 8) = true := by simpa using h8
    refine walkBF (And.intro @vcells_mk (And.intro @ncells_mk (And.intro @scells_mk (And.intro e2 (And.intro e3 (And.intro e4 (And.intro e5 (And.intro e6 (And.intro e7 e8))))))))) ?_
    refine walkC (hR) ?_
    refine walkG ?_
    refine .normal ⟨isRight t, hsimple (by omega) (by omega) (by omega) (by omega) _ (by rw [hV, hk, if_neg h2, if_neg h3, if_neg h5, if_pos h8])⟩ ?_
    simp only [hpv, vcells_mk, ncells_mk, scells_mk, bytePV_len, Weak, eq_self, used_is, sc_any, sc_c, sc_pp, sc_ref, sc_row, sc_agg, sc_fn, ScL, some_imp, List.forall_mem_map, go_sem, Int.reduceBEq, Int.reduceLE, Int.reduceLT, Int.reduceNeg, Nat.reduceAdd, Nat.reduceEqDiff, Nat.reduceLT, Nat.reduceLeDiff, Nat.reduceMul, Nat.reduceSub, reduceCtorEq, ↓reduceIte]
  have e8 : (nd.kind == 8) = false := by simpa using h8
  by_cases h14 : nd.kind = 14
  · have hpv : partV k n b t xs ks = .mk k 0 0 t [] [] := by rw [hk, h14]; simp [partV]
    have e14 : (nd.kind == 14) = true := by simpa using h14
    refine walkBF (And.intro @vcells_mk (And.intro @ncells_mk (And.intro @scells_mk (And.intro e2 (And.intro e3 (And.intro e4 (And.intro e5 (And.intro e6 (And.intro e7 (And.intro e8 (And.intro e14 @bytePV_len))))))))))) ?_
    refine .normal ⟨(t.length : Int) == nd.size, hsimple (by omega) (by omega) (by omega) (by omega) _ (by rw [hV, hk, if_neg h2, if_neg h3, if_neg h5, if_neg h8, if_pos h14])⟩ ?_
    simp only [hpv, vcells_mk, ncells_mk, scells_mk, bytePV_len, Weak, eq_self, used_is, sc_any, sc_c, sc_pp, sc_ref, sc_row, sc_agg, sc_fn, ScL, some_imp, List.forall_mem_map, go_sem, Int.reduceBEq, Int.reduceLE, Int.reduceLT, Int.reduceNeg, Nat.reduceAdd, Nat.reduceEqDiff, Nat.reduceLT, Nat.reduceLeDiff, Nat.reduceMul, Nat.reduceSub, reduceCtorEq, ↓reduceIte]
  have e14 : (nd.kind == 14) = false := by simpa using h14
  by_cases h10 : nd.kind = 10
  · have hpv : partV k n b t xs ks = .mk k n 0 [] [] [] := by rw [hk, h10]; simp [partV]
    have e10 : (nd.kind == 10) = true := by simpa using h10
    refine walkBF (And.intro @vcells_mk (And.intro @ncells_mk (And.intro @scells_mk (And.intro e2 (And.intro e3 (And.intro e4 (And.intro e5 (And.intro e6 (And.intro e7 (And.intro e8 (And.intro e14 e10))))))))))) ?_
    refine .normal ⟨decide (n ≥ 0) && decide (n < (nd.symbols.length : Int)), hsimple (by omega) (by omega) (by omega) (by omega) _ (by rw [hV, hk, if_neg h2, if_neg h3, if_neg h5, if_neg h8, if_neg h14, if_pos h10])⟩ ?_
    simp only [hpv, vcells_mk, ncells_mk, scells_mk, bytePV_len, Weak, eq_self, used_is, sc_any, sc_c, sc_pp, sc_ref, sc_row, sc_agg, sc_fn, ScL, some_imp, List.forall_mem_map, go_sem, Int.reduceBEq, Int.reduceLE, Int.reduceLT, Int.reduceNeg, Nat.reduceAdd, Nat.reduceEqDiff, Nat.reduceLT, Nat.reduceLeDiff, Nat.reduceMul, Nat.reduceSub, reduceCtorEq, ↓reduceIte]
  have e10 : (nd.kind == 10) = false := by simpa using h10
  have hea := eachM_iff s.nodes (itemAt nd n) xs
  by_cases h9 : nd.kind = 9
  · have hpv : partV k n b t xs ks = .mk k 0 0 [] xs [] := by rw [hk, h9]; simp [partV]
    have e9 : (nd.kind == 9) = true := by simpa using h9
    have hV9 : V = (((xs.length == nd.fields.length) && eachM s.nodes (itemAt nd n) xs) && bv) := by
      rw [hV, hk, if_neg h2, if_neg h3, if_neg h5, if_neg h8, if_neg h14, if_neg h10, if_pos h9]
      have : decide (xs.length ≤ 300) = true := by simpa using hx3
      rw [this]
      cases bv <;> simp
    clear hV
    obtain ⟨R, hRR⟩ : ∃ R, R = ((xs.length == nd.fields.length) && eachM s.nodes (itemAt nd n) xs) := ⟨_, rfl⟩
    rw [← hRR] at hV9
    have hty : ∀ (i : Nat) (f : FT), nd.fields[i]? = some f → itemAt nd n i = f.type ∧ 0 ≤ f.type ∧ f.type < (s.nodes.length : Int) := fun i f hf => by
      refine ⟨by rw [itemAt, if_pos h9, typeAt, hf], hkn f.type ?_⟩
      rw [kidsN, if_pos h9]
      exact List.mem_map.2 ⟨f, List.mem_of_getElem? hf, rfl⟩
    refine walkBF (And.intro @vcells_mk (And.intro @ncells_mk (And.intro @scells_mk (And.intro e2 (And.intro e3 (And.intro e4 (And.intro e5 (And.intro e6 (And.intro e7 (And.intro e8 (And.intro e14 (And.intro e10 e9)))))))))))) ?_
    refine VC.loop (ι := {x : Nat × Bool // x.1 ≤ xs.length ∧ (x.2 = true → xs.length = nd.fields.length ∧ ∀ (j : Nat) (y : VT), j < x.1 → xs[j]? = some y → isM s.nodes (itemAt nd n j) y = true) ∧ (x.2 = false → R = false)}) (fun q => [(3, .ref 0 1 0 0), (5, .ref 8 1 0 0), (7, .ref 64 1 0 0), (8, .ref 240 1 0 0), (9, .c (.v (.bool q.1.2))), (10, .c (.v (.int .i64 (q.1.1 : Int))))])
      (fun q => [(0, ⟨false, 24, 2, [s.cells.map .c]⟩), (8, ⟨false, 43, 6, [(VT.mk k n b t xs ks).cells.map .c]⟩), (64, ⟨false, 33, 10, [nd.cells.map .c]⟩), (240, ⟨false, 43, 6, [((VT.mk k 0 0 [] xs [])).cells.map .c]⟩)]) 24000 (fun q => xs.length - q.1.1) ⟨(0, (xs.length : Int) == (nd.fields.length : Int)), Nat.zero_le _, fun h => ⟨by simp at h; omega, fun j y hj => by simp only [] at hj; omega⟩, fun h => by
        have : (xs.length == nd.fields.length) = false := by
          simp at h ⊢
          omega
        rw [hRR, this]
        rfl⟩ ?_ ?_
    · simp only [vcells_mk, ncells_mk, scells_mk, Weak, eq_self, used_is, sc_any, sc_c, sc_pp, sc_ref, sc_row, sc_agg, sc_fn, ScL, some_imp, List.forall_mem_map, go_sem, Int.reduceBEq, Int.reduceLE, Int.reduceLT, Int.reduceNeg, Nat.reduceAdd, Nat.reduceEqDiff, Nat.reduceLT, Nat.reduceLeDiff, Nat.reduceMul, Nat.reduceSub, reduceCtorEq, ↓reduceIte]
      done
    rintro ⟨⟨i, ok⟩, hi, hy, hno⟩
    simp only [] at hi hy hno ⊢
    refine walkGF (And.intro @vcells_mk (And.intro @ncells_mk @scells_mk)) ?_
    refine VC.cond (by rfl) (by trivial) (fun hc => ?_) (fun hc => ?_)
    · obtain ⟨hlt, rfl⟩ : i < xs.length ∧ ok = true := by simp at hc; exact ⟨by omega, hc.2⟩
      obtain ⟨hfl, hys⟩ := hy rfl
      obtain ⟨x, hx⟩ : ∃ x, xs[i]? = some x := ⟨xs[i], List.getElem?_eq_getElem hlt⟩
      obtain ⟨f, hf⟩ : ∃ f, nd.fields[i]? = some f := ⟨nd.fields[i]'(by omega), List.getElem?_eq_getElem (by omega)⟩
      obtain ⟨hit1, hf0, hf1⟩ := hty i f hf
      have hC := hit i x hx f.type hf0 hf1
      rw [← hit1] at hC
      have hxp : (xs.map VT.cells)[i]? = some x.cells := by rw [List.getElem?_map, hx]; rfl
      have hfp : (nd.fields.map FT.cells)[i]? = some f.cells := by rw [List.getElem?_map, hf]; rfl
      have hw : IntKind.i64.wrap ((i : Int) + 1) = (i : Int) + 1 := wrap64_id (by omega) (by omega)
      obtain ⟨b1, hb1⟩ : ∃ b1, b1 = isM s.nodes (itemAt nd n i) x := ⟨_, rfl⟩
      rw [← hb1, hit1] at hC
      rw [VT.av_eq, ST.av_eq, scells_mk, List.map_cons, List.map_cons, List.map_nil] at hC
      refine walkGF (And.intro @vcells_mk (And.intro @ncells_mk (And.intro @scells_mk (And.intro hxp (And.intro hfp (And.intro @fcells_mk (And.intro @len_vcells (And.intro @take_vcells @take_vcellsC)))))))) ?_
      refine walkCF (@pureL_c) (hC) ?_
      refine walkGF (hw) ?_
      refine .next ⟨(i + 1, b1), by simp only []; omega, fun h => ⟨hfl, fun j y hj hjy => ?_⟩, fun h => ?_⟩ ?_ (by simp only []; omega)
      · simp only [] at hj h
        by_cases hji : j < i
        · exact hys j y hji hjy
        · obtain rfl : j = i := by omega
          rw [hx] at hjy
          obtain rfl := Option.some.inj hjy
          rw [← hb1, h]
      · simp only [] at h
        rw [hRR, eachM_false hx (by rw [← hb1, h])]
        simp
      simp only [vcells_mk, ncells_mk, scells_mk, Weak, eq_self, used_is, sc_any, sc_c, sc_pp, sc_ref, sc_row, sc_agg, sc_fn, ScL, some_imp, List.forall_mem_map, go_sem, Int.reduceBEq, Int.reduceLE, Int.reduceLT, Int.reduceNeg, Nat.reduceAdd, Nat.reduceEqDiff, Nat.reduceLT, Nat.reduceLeDiff, Nat.reduceMul, Nat.reduceSub, reduceCtorEq, ↓reduceIte]
      exact cI (by omega)
    · have hok : V = (ok && bv) := by
        rw [hV9]
        congr 1
        cases ok with
        | false => exact hno rfl
        | true =>
          obtain ⟨hfl, hys⟩ := hy rfl
          have hie : i = xs.length := by simp at hc; omega
          rw [hRR, hea.2 fun j y hjy => hys j y (by have := (List.getElem?_eq_some_iff.1 hjy).1; omega) hjy]
          simp [hfl]
      refine walkG ?_
      refine .normal ⟨ok, hok⟩ ?_
      simp only [hpv, vcells_mk, ncells_mk, scells_mk, Weak, eq_self, used_is, sc_any, sc_c, sc_pp, sc_ref, sc_row, sc_agg, sc_fn, ScL, some_imp, List.forall_mem_map, go_sem, Int.reduceBEq, Int.reduceLE, Int.reduceLT, Int.reduceNeg, Nat.reduceAdd, Nat.reduceEqDiff, Nat.reduceLT, Nat.reduceLeDiff, Nat.reduceMul, Nat.reduceSub, reduceCtorEq, ↓reduceIte]
  have e9 : (nd.kind == 9) = false := by simpa using h9
  by_cases h1112 : nd.kind = 11 ∨ nd.kind = 12
  · have hitm : ∀ j, itemAt nd n j = nd.items := fun j => by rw [itemAt, if_neg h9, if_neg (by omega)]
    obtain ⟨hi0, hi1⟩ := hkn nd.items (by rw [kidsN, if_neg h9, if_pos h1112]; simp)
    have h300 : decide (xs.length ≤ 300) = true := by simpa using hx3
    obtain ⟨R, hRR⟩ : ∃ R, R = eachM s.nodes (itemAt nd n) xs := ⟨_, rfl⟩
    by_cases h12 : nd.kind = 12
    · have hpv : partV k n b t xs ks = .mk k 0 0 [] xs ks := by rw [hk, h12]; simp [partV]
      have hV12 : V = (((R && (ks.length == xs.length)) && ks.all keyM) && bv) := by
        rw [hV, hk, if_neg h2, if_neg h3, if_neg h5, if_neg h8, if_neg h14, if_neg h10, if_neg h9, if_pos h12, h300, ← hRR]
        cases bv <;> cases R <;> simp
      clear hV
      have e11 : (nd.kind == 11) = false := by simp; omega
      have e12s : (nd.kind == 12) = true := by simpa using h12
      refine walkBF (And.intro @vcells_mk (And.intro @ncells_mk (And.intro @scells_mk (And.intro e2 (And.intro e3 (And.intro e4 (And.intro e5 (And.intro e6 (And.intro e7 (And.intro e8 (And.intro e14 (And.intro e10 (And.intro e9 (And.intro e11 e12s)))))))))))))) ?_
      refine VC.loop (ι := {x : Nat × Bool // x.1 ≤ xs.length ∧ (x.2 = true → ∀ (j : Nat) (y : VT), j < x.1 → xs[j]? = some y → isM s.nodes nd.items y = true) ∧ (x.2 = false → R = false)}) (fun q => [(3, .ref 0 1 0 0), (5, .ref 8 1 0 0), (7, .ref 64 1 0 0), (8, .ref 240 1 0 0), (9, .c (.v (.bool q.1.2))), (11, .c (.v (.int .i64 (q.1.1 : Int))))])
        (fun q => [(0, ⟨false, 24, 2, [s.cells.map .c]⟩), (8, ⟨false, 43, 6, [(VT.mk k n b t xs ks).cells.map .c]⟩), (64, ⟨false, 33, 10, [nd.cells.map .c]⟩), (240, ⟨false, 43, 6, [((VT.mk k 0 0 [] xs [])).cells.map .c]⟩)]) 24000 (fun q => xs.length - q.1.1) ⟨(0, true), Nat.zero_le _, fun _ j y hj => by simp only [] at hj; omega, fun h => by simp at h⟩ ?_ ?_
      · simp only [vcells_mk, ncells_mk, scells_mk, Weak, eq_self, used_is, sc_any, sc_c, sc_pp, sc_ref, sc_row, sc_agg, sc_fn, ScL, some_imp, List.forall_mem_map, go_sem, Int.reduceBEq, Int.reduceLE, Int.reduceLT, Int.reduceNeg, Nat.reduceAdd, Nat.reduceEqDiff, Nat.reduceLT, Nat.reduceLeDiff, Nat.reduceMul, Nat.reduceSub, reduceCtorEq, ↓reduceIte]
      rintro ⟨⟨i, ok⟩, hi, hy, hno⟩
      simp only [] at hi hy hno ⊢
      refine walkGF (And.intro @vcells_mk (And.intro @ncells_mk @scells_mk)) ?_
      refine VC.cond (by rfl) (by trivial) (fun hc => ?_) (fun hc => ?_)
      · obtain ⟨hlt, rfl⟩ : i < xs.length ∧ ok = true := by simp at hc; exact ⟨by omega, hc.2⟩
        have hys := hy rfl
        obtain ⟨x, hx⟩ : ∃ x, xs[i]? = some x := ⟨xs[i], List.getElem?_eq_getElem hlt⟩
        have hC := hit i x hx nd.items hi0 hi1
        have hxp : (xs.map VT.cells)[i]? = some x.cells := by rw [List.getElem?_map, hx]; rfl
        have hw : IntKind.i64.wrap ((i : Int) + 1) = (i : Int) + 1 := wrap64_id (by omega) (by omega)
        obtain ⟨b1, hb1⟩ : ∃ b1, b1 = isM s.nodes nd.items x := ⟨_, rfl⟩
        rw [← hb1] at hC
        rw [VT.av_eq, ST.av_eq, scells_mk, List.map_cons, List.map_cons, List.map_nil] at hC
        refine walkGF (And.intro @vcells_mk (And.intro @ncells_mk (And.intro @scells_mk (And.intro hxp (And.intro @len_vcells (And.intro @take_vcells @take_vcellsC)))))) ?_
        refine walkCF (@pureL_c) (hC) ?_
        refine walkGF (hw) ?_
        refine .next ⟨(i + 1, b1), by simp only []; omega, fun h j y hj hjy => ?_, fun h => ?_⟩ ?_ (by simp only []; omega)
        · simp only [] at hj h
          by_cases hji : j < i
          · exact hys j y hji hjy
          · obtain rfl : j = i := by omega
            rw [hx] at hjy
            obtain rfl := Option.some.inj hjy
            rw [← hb1, h]
        · simp only [] at h
          rw [hRR]
          exact eachM_false hx (by rw [hitm, ← hb1, h])
        simp only [vcells_mk, ncells_mk, scells_mk, Weak, eq_self, used_is, sc_any, sc_c, sc_pp, sc_ref, sc_row, sc_agg, sc_fn, ScL, some_imp, List.forall_mem_map, go_sem, Int.reduceBEq, Int.reduceLE, Int.reduceLT, Int.reduceNeg, Nat.reduceAdd, Nat.reduceEqDiff, Nat.reduceLT, Nat.reduceLeDiff, Nat.reduceMul, Nat.reduceSub, reduceCtorEq, ↓reduceIte]
        exact cI (by omega)
      have hok : ok = R := by
        cases ok with
        | false => exact (hno rfl).symm
        | true =>
          have hie : i = xs.length := by simp at hc; omega
          rw [hRR, hea.2 fun j y hjy => by rw [hitm]; exact hy rfl j y (by have := (List.getElem?_eq_some_iff.1 hjy).1; omega) hjy]
      subst hok
      clear hRR
      have e12 : (nd.kind == 12) = true := by simpa using h12
      obtain ⟨R2, hR2⟩ : ∃ R2, R2 = ((ok && ((ks.length : Int) == (xs.length : Int))) && ks.all keyM) := ⟨_, rfl⟩
      have hV12b : V = (R2 && bv) := by
        have e : ((ks.length : Int) == (xs.length : Int)) = (ks.length == xs.length) := by
          rw [Bool.eq_iff_iff]
          simp
          omega
        rw [hV12, hR2, e]
      obtain ⟨bs, hbs⟩ : ∃ bs, bs = (ok && ((ks.length : Int) == (xs.length : Int))) := ⟨_, rfl⟩
      rw [← hbs] at hR2
      refine walkBF (And.intro @vcells_mk (And.intro @ncells_mk (And.intro @scells_mk e12))) ?_
      refine VC.loop (ι := {x : Nat × Bool // x.1 ≤ ks.length ∧ (x.2 = true → bs = true ∧ ∀ (j : Nat) (y : List UInt8), j < x.1 → ks[j]? = some y → keyM y = true) ∧ (x.2 = false → R2 = false)}) (fun q => [(3, .ref 0 1 0 0), (5, .ref 8 1 0 0), (7, .ref 64 1 0 0), (8, .ref 240 1 0 0), (9, .c (.v (.bool q.1.2))), (12, .c (.v (.int .i64 (q.1.1 : Int))))])
        (fun q => [(0, ⟨false, 24, 2, [s.cells.map .c]⟩), (8, ⟨false, 43, 6, [(VT.mk k n b t xs ks).cells.map .c]⟩), (64, ⟨false, 33, 10, [nd.cells.map .c]⟩), (240, ⟨false, 43, 6, [((VT.mk k 0 0 [] xs ks)).cells.map .c]⟩)]) 48000 (fun q => ks.length - q.1.1) ⟨(0, bs), Nat.zero_le _, fun h => ⟨h, fun j y hj => by simp only [] at hj; omega⟩, fun h => by
          simp only [] at h
          rw [hR2, h]
          rfl⟩ ?_ ?_
      · simp only [vcells_mk, ncells_mk, scells_mk, hbs, Weak, eq_self, used_is, sc_any, sc_c, sc_pp, sc_ref, sc_row, sc_agg, sc_fn, ScL, some_imp, List.forall_mem_map, go_sem, Int.reduceBEq, Int.reduceLE, Int.reduceLT, Int.reduceNeg, Nat.reduceAdd, Nat.reduceEqDiff, Nat.reduceLT, Nat.reduceLeDiff, Nat.reduceMul, Nat.reduceSub, reduceCtorEq, ↓reduceIte]
      clear hi hy hno hc i
      rintro ⟨⟨i, ok2⟩, hi, hy, hno⟩
      simp only [] at hi hy hno ⊢
      refine walkGF (And.intro @vcells_mk (And.intro @ncells_mk @scells_mk)) ?_
      refine VC.cond (by rfl) (by trivial) (fun hc => ?_) (fun hc => ?_)
      · obtain ⟨hlt, rfl⟩ : i < ks.length ∧ ok2 = true := by simp at hc; exact ⟨by omega, hc.2⟩
        obtain ⟨hbt, hys⟩ := hy rfl
        obtain ⟨y, hyk⟩ : ∃ y, ks[i]? = some y := ⟨ks[i], List.getElem?_eq_getElem hlt⟩
        have hyl := hs3 y (List.mem_of_getElem? hyk)
        have hT := rtext11_told y hyl
        have hxp : (ks.map sPV)[i]? = some (sPV y) := by rw [List.getElem?_map, hyk]; rfl
        have hw : IntKind.i64.wrap ((i : Int) + 1) = (i : Int) + 1 := wrap64_id (by omega) (by omega)
        have hbs2 : bytePV (str y).data.toList = bytePV y := by rw [str_dl]
        have hkm : keyM y = (decide ((y.length : Int) ≤ 20000) && isRight y) := by
          rw [keyM]
          congr 1
          exact decide_eq_decide.2 (by omega)
        obtain ⟨b1, hb1⟩ : ∃ b1, b1 = isRight y := ⟨_, rfl⟩
        rw [← hb1] at hT hkm
        refine walkGF (And.intro @vcells_mk (And.intro @ncells_mk (And.intro @scells_mk (And.intro hxp (And.intro @sPV_eq (And.intro @str_size hbs2)))))) ?_
        refine walkDF (hbs2) (hT) ?_
        refine walkGF (hw) ?_
        refine .next ⟨(i + 1, keyM y), by simp only []; omega, fun h => ⟨hbt, fun j z hj hjz => ?_⟩, fun h => ?_⟩ ?_ (by simp only []; omega)
        · simp only [] at hj h
          by_cases hji : j < i
          · exact hys j z hji hjz
          · obtain rfl : j = i := by omega
            rw [hyk] at hjz
            obtain rfl := Option.some.inj hjz
            exact h
        · simp only [] at h
          have : ks.all keyM = false := by
            rw [List.all_eq_false]
            exact ⟨y, List.mem_of_getElem? hyk, by rw [h]; simp⟩
          rw [hR2, this]
          simp
        simp only [vcells_mk, ncells_mk, scells_mk, hkm, Weak, eq_self, used_is, sc_any, sc_c, sc_pp, sc_ref, sc_row, sc_agg, sc_fn, ScL, some_imp, List.forall_mem_map, go_sem, Int.reduceBEq, Int.reduceLE, Int.reduceLT, Int.reduceNeg, Nat.reduceAdd, Nat.reduceEqDiff, Nat.reduceLT, Nat.reduceLeDiff, Nat.reduceMul, Nat.reduceSub, reduceCtorEq, ↓reduceIte]
        exact cI (by omega)
      have hok2 : ok2 = R2 := by
        cases ok2 with
        | false => exact (hno rfl).symm
        | true =>
          obtain ⟨hbt, hys⟩ := hy rfl
          have hie : i = ks.length := by simp at hc; omega
          rw [hR2, hbt, List.all_eq_true.2 fun y hym => by
            obtain ⟨j, hj⟩ := List.getElem?_of_mem hym
            exact hys j y (by have := (List.getElem?_eq_some_iff.1 hj).1; omega) hj]
          rfl
      refine walkG ?_
      refine .normal ⟨ok2, by rw [hok2]; exact hV12b⟩ ?_
      simp only [hpv, vcells_mk, ncells_mk, scells_mk, Weak, eq_self, used_is, sc_any, sc_c, sc_pp, sc_ref, sc_row, sc_agg, sc_fn, ScL, some_imp, List.forall_mem_map, go_sem, Int.reduceBEq, Int.reduceLE, Int.reduceLT, Int.reduceNeg, Nat.reduceAdd, Nat.reduceEqDiff, Nat.reduceLT, Nat.reduceLeDiff, Nat.reduceMul, Nat.reduceSub, reduceCtorEq, ↓reduceIte]
    · have h11 : nd.kind = 11 := by omega
      have hpv : partV k n b t xs ks = .mk k 0 0 [] xs [] := by rw [hk, h11]; simp [partV]
      have hV11 : V = (R && bv) := by
        rw [hV, hk, if_neg h2, if_neg h3, if_neg h5, if_neg h8, if_neg h14, if_neg h10, if_neg h9, if_neg h12, if_pos h11, h300, ← hRR]
        cases bv <;> cases R <;> simp
      clear hV
      have e11 : (nd.kind == 11) = true := by simpa using h11
      refine walkBF (And.intro @vcells_mk (And.intro @ncells_mk (And.intro @scells_mk (And.intro e2 (And.intro e3 (And.intro e4 (And.intro e5 (And.intro e6 (And.intro e7 (And.intro e8 (And.intro e14 (And.intro e10 (And.intro e9 e11))))))))))))) ?_
      refine VC.loop (ι := {x : Nat × Bool // x.1 ≤ xs.length ∧ (x.2 = true → ∀ (j : Nat) (y : VT), j < x.1 → xs[j]? = some y → isM s.nodes nd.items y = true) ∧ (x.2 = false → R = false)}) (fun q => [(3, .ref 0 1 0 0), (5, .ref 8 1 0 0), (7, .ref 64 1 0 0), (8, .ref 240 1 0 0), (9, .c (.v (.bool q.1.2))), (11, .c (.v (.int .i64 (q.1.1 : Int))))])
        (fun q => [(0, ⟨false, 24, 2, [s.cells.map .c]⟩), (8, ⟨false, 43, 6, [(VT.mk k n b t xs ks).cells.map .c]⟩), (64, ⟨false, 33, 10, [nd.cells.map .c]⟩), (240, ⟨false, 43, 6, [((VT.mk k 0 0 [] xs [])).cells.map .c]⟩)]) 24000 (fun q => xs.length - q.1.1) ⟨(0, true), Nat.zero_le _, fun _ j y hj => by simp only [] at hj; omega, fun h => by simp at h⟩ ?_ ?_
      · simp only [vcells_mk, ncells_mk, scells_mk, Weak, eq_self, used_is, sc_any, sc_c, sc_pp, sc_ref, sc_row, sc_agg, sc_fn, ScL, some_imp, List.forall_mem_map, go_sem, Int.reduceBEq, Int.reduceLE, Int.reduceLT, Int.reduceNeg, Nat.reduceAdd, Nat.reduceEqDiff, Nat.reduceLT, Nat.reduceLeDiff, Nat.reduceMul, Nat.reduceSub, reduceCtorEq, ↓reduceIte]
      rintro ⟨⟨i, ok⟩, hi, hy, hno⟩
      simp only [] at hi hy hno ⊢
      refine walkGF (And.intro @vcells_mk (And.intro @ncells_mk @scells_mk)) ?_
      refine VC.cond (by rfl) (by trivial) (fun hc => ?_) (fun hc => ?_)
      · obtain ⟨hlt, rfl⟩ : i < xs.length ∧ ok = true := by simp at hc; exact ⟨by omega, hc.2⟩
        have hys := hy rfl
        obtain ⟨x, hx⟩ : ∃ x, xs[i]? = some x := ⟨xs[i], List.getElem?_eq_getElem hlt⟩
        have hC := hit i x hx nd.items hi0 hi1
        have hxp : (xs.map VT.cells)[i]? = some x.cells := by rw [List.getElem?_map, hx]; rfl
        have hw : IntKind.i64.wrap ((i : Int) + 1) = (i : Int) + 1 := wrap64_id (by omega) (by omega)
        obtain ⟨b1, hb1⟩ : ∃ b1, b1 = isM s.nodes nd.items x := ⟨_, rfl⟩
        rw [← hb1] at hC
        rw [VT.av_eq, ST.av_eq, scells_mk, List.map_cons, List.map_cons, List.map_nil] at hC
        refine walkGF (And.intro @vcells_mk (And.intro @ncells_mk (And.intro @scells_mk (And.intro hxp (And.intro @len_vcells (And.intro @take_vcells @take_vcellsC)))))) ?_
        refine walkCF (@pureL_c) (hC) ?_
        refine walkGF (hw) ?_
        refine .next ⟨(i + 1, b1), by simp only []; omega, fun h j y hj hjy => ?_, fun h => ?_⟩ ?_ (by simp only []; omega)
        · simp only [] at hj h
          by_cases hji : j < i
          · exact hys j y hji hjy
          · obtain rfl : j = i := by omega
            rw [hx] at hjy
            obtain rfl := Option.some.inj hjy
            rw [← hb1, h]
        · simp only [] at h
          rw [hRR]
          exact eachM_false hx (by rw [hitm, ← hb1, h])
        simp only [vcells_mk, ncells_mk, scells_mk, Weak, eq_self, used_is, sc_any, sc_c, sc_pp, sc_ref, sc_row, sc_agg, sc_fn, ScL, some_imp, List.forall_mem_map, go_sem, Int.reduceBEq, Int.reduceLE, Int.reduceLT, Int.reduceNeg, Nat.reduceAdd, Nat.reduceEqDiff, Nat.reduceLT, Nat.reduceLeDiff, Nat.reduceMul, Nat.reduceSub, reduceCtorEq, ↓reduceIte]
        exact cI (by omega)
      have hok : ok = R := by
        cases ok with
        | false => exact (hno rfl).symm
        | true =>
          have hie : i = xs.length := by simp at hc; omega
          rw [hRR, hea.2 fun j y hjy => by rw [hitm]; exact hy rfl j y (by have := (List.getElem?_eq_some_iff.1 hjy).1; omega) hjy]
      subst hok
      clear hRR
      have e12 : (nd.kind == 12) = false := by simp; omega
      refine walkBF (And.intro @vcells_mk (And.intro @ncells_mk (And.intro @scells_mk e12))) ?_
      refine .normal ⟨ok, hV11⟩ ?_
      simp only [hpv, vcells_mk, ncells_mk, scells_mk, Weak, eq_self, used_is, sc_any, sc_c, sc_pp, sc_ref, sc_row, sc_agg, sc_fn, ScL, some_imp, List.forall_mem_map, go_sem, Int.reduceBEq, Int.reduceLE, Int.reduceLT, Int.reduceNeg, Nat.reduceAdd, Nat.reduceEqDiff, Nat.reduceLT, Nat.reduceLeDiff, Nat.reduceMul, Nat.reduceSub, reduceCtorEq, ↓reduceIte]
  have e11 : (nd.kind == 11) = false := by simp; omega
  have e12 : (nd.kind == 12) = false := by simp; omega
  by_cases h13 : nd.kind = 13
  · have hpv : partV k n b t xs ks = .mk k n 0 [] xs [] := by rw [hk, h13]; simp [partV]
    have e13 : (nd.kind == 13) = true := by simpa using h13
    have hV13 : V = ((((decide (0 ≤ n) && (decide (n < (nd.branches.length : Int)) && xs.length == 1)) && eachM s.nodes (itemAt nd n) xs)) && bv) := by
      rw [hV, hk, if_neg h2, if_neg h3, if_neg h5, if_neg h8, if_neg h14, if_neg h10, if_neg h9, if_neg (by omega), if_neg (by omega), if_pos h13]
      cases bv <;> simp
    clear hV
    by_cases hin : 0 ≤ n ∧ n < (nd.branches.length : Int) ∧ xs.length = 1
    · obtain ⟨q0, q1, q2⟩ := hin
      obtain ⟨x, hxx⟩ : ∃ x, xs = [x] := List.length_eq_one_iff.1 q2
      obtain ⟨p, rfl⟩ : ∃ p : Nat, n = (p : Int) := ⟨n.toNat, by omega⟩
      obtain ⟨f, hf⟩ : ∃ f, nd.branches[p]? = some f := ⟨nd.branches[p]'(by omega), List.getElem?_eq_getElem (by omega)⟩
      obtain ⟨hf0, hf1⟩ := hkn f (by rw [kidsN, if_neg h9, if_neg h1112, if_pos h13]; exact List.mem_of_getElem? hf)
      have hC := hit 0 x (by rw [hxx]; rfl) f hf0 hf1
      have hita : itemAt nd (p : Int) 0 = f := by rw [itemAt, if_neg h9, if_pos h13, branchAt, Int.toNat_natCast, hf]
      have hxp : (xs.map VT.cells)[0]? = some x.cells := by rw [hxx]; rfl
      have hfp : (nd.branches.map iPV)[p]? = some (iPV f) := by rw [List.getElem?_map, hf]; rfl
      have hVx : V = (isM s.nodes f x && bv) := by
        have o1 : decide (0 ≤ (p : Int)) = true := by simp
        have o2 : decide ((p : Int) < (nd.branches.length : Int)) = true := by simpa using q1
        rw [hV13, o1, o2, hxx, eachM, eachM, hita]
        simp
      obtain ⟨b1, hb1⟩ : ∃ b1, b1 = isM s.nodes f x := ⟨_, rfl⟩
      rw [← hb1] at hC hVx
      rw [VT.av_eq, ST.av_eq, scells_mk, List.map_cons, List.map_cons, List.map_nil] at hC
      have o1 : decide ((p : Int) ≥ 0) = true := by simp
      have o2 : decide ((p : Int) < (nd.branches.length : Int)) = true := by simpa using q1
      have o3 : ((xs.length : Int) == 1) = true := by simp; omega
      have hpos : 0 < xs.length := by omega
      refine walkBF (And.intro @vcells_mk (And.intro @ncells_mk (And.intro @scells_mk (And.intro e2 (And.intro e3 (And.intro e4 (And.intro e5 (And.intro e6 (And.intro e7 (And.intro e8 (And.intro e14 (And.intro e10 (And.intro e9 (And.intro e11 (And.intro e12 (And.intro e13 (And.intro o1 (And.intro o2 (And.intro o3 (And.intro hxp (And.intro hfp (And.intro @iPV_eq (And.intro @len_vcells (And.intro @take_vcells @take_vcellsC)))))))))))))))))))))))) ?_
      refine walkCF (@pureL_c) (hC) ?_
      refine walkG ?_
      refine .normal ⟨b1, hVx⟩ ?_
      simp only [hpv, vcells_mk, ncells_mk, scells_mk, Weak, eq_self, used_is, sc_any, sc_c, sc_pp, sc_ref, sc_row, sc_agg, sc_fn, ScL, some_imp, List.forall_mem_map, go_sem, Int.reduceBEq, Int.reduceLE, Int.reduceLT, Int.reduceNeg, Nat.reduceAdd, Nat.reduceEqDiff, Nat.reduceLT, Nat.reduceLeDiff, Nat.reduceMul, Nat.reduceSub, reduceCtorEq, ↓reduceIte]
    · have hVf : V = (false && bv) := by
        have : (decide (0 ≤ n) && (decide (n < (nd.branches.length : Int)) && xs.length == 1)) = false := by
          rw [Bool.eq_false_iff]
          intro h
          simp at h
          exact hin h
        rw [hV13, this]
        rfl
      by_cases q0 : 0 ≤ n
      · have o1 : decide (n ≥ 0) = true := by simpa using q0
        by_cases q1 : n < (nd.branches.length : Int)
        · have o2 : decide (n < (nd.branches.length : Int)) = true := by simpa using q1
          have o3 : ((xs.length : Int) == 1) = false := by simp; omega
          refine walkBF (And.intro @vcells_mk (And.intro @ncells_mk (And.intro @scells_mk (And.intro e2 (And.intro e3 (And.intro e4 (And.intro e5 (And.intro e6 (And.intro e7 (And.intro e8 (And.intro e14 (And.intro e10 (And.intro e9 (And.intro e11 (And.intro e12 (And.intro e13 (And.intro o1 (And.intro o2 o3)))))))))))))))))) ?_
          refine .normal ⟨false, hVf⟩ ?_
          simp only [hpv, vcells_mk, ncells_mk, scells_mk, Weak, eq_self, used_is, sc_any, sc_c, sc_pp, sc_ref, sc_row, sc_agg, sc_fn, ScL, some_imp, List.forall_mem_map, go_sem, Int.reduceBEq, Int.reduceLE, Int.reduceLT, Int.reduceNeg, Nat.reduceAdd, Nat.reduceEqDiff, Nat.reduceLT, Nat.reduceLeDiff, Nat.reduceMul, Nat.reduceSub, reduceCtorEq, ↓reduceIte]
        · have o2 : decide (n < (nd.branches.length : Int)) = false := by simpa using q1
          refine walkBF (And.intro @vcells_mk (And.intro @ncells_mk (And.intro @scells_mk (And.intro e2 (And.intro e3 (And.intro e4 (And.intro e5 (And.intro e6 (And.intro e7 (And.intro e8 (And.intro e14 (And.intro e10 (And.intro e9 (And.intro e11 (And.intro e12 (And.intro e13 (And.intro o1 o2))))))))))))))))) ?_
          refine .normal ⟨false, hVf⟩ ?_
          simp only [hpv, vcells_mk, ncells_mk, scells_mk, Weak, eq_self, used_is, sc_any, sc_c, sc_pp, sc_ref, sc_row, sc_agg, sc_fn, ScL, some_imp, List.forall_mem_map, go_sem, Int.reduceBEq, Int.reduceLE, Int.reduceLT, Int.reduceNeg, Nat.reduceAdd, Nat.reduceEqDiff, Nat.reduceLT, Nat.reduceLeDiff, Nat.reduceMul, Nat.reduceSub, reduceCtorEq, ↓reduceIte]
      · have o1 : decide (n ≥ 0) = false := by simpa using q0
        refine walkBF (And.intro @vcells_mk (And.intro @ncells_mk (And.intro @scells_mk (And.intro e2 (And.intro e3 (And.intro e4 (And.intro e5 (And.intro e6 (And.intro e7 (And.intro e8 (And.intro e14 (And.intro e10 (And.intro e9 (And.intro e11 (And.intro e12 (And.intro e13 o1)))))))))))))))) ?_
        refine .normal ⟨false, hVf⟩ ?_
        simp only [hpv, vcells_mk, ncells_mk, scells_mk, Weak, eq_self, used_is, sc_any, sc_c, sc_pp, sc_ref, sc_row, sc_agg, sc_fn, ScL, some_imp, List.forall_mem_map, go_sem, Int.reduceBEq, Int.reduceLE, Int.reduceLT, Int.reduceNeg, Nat.reduceAdd, Nat.reduceEqDiff, Nat.reduceLT, Nat.reduceLeDiff, Nat.reduceMul, Nat.reduceSub, reduceCtorEq, ↓reduceIte]
  have e13 : (nd.kind == 13) = false := by simpa using h13
  have hpv : partV k n b t xs ks = .mk k 0 0 [] [] [] := by
    rw [hk, partV, if_neg (by omega), if_neg (by omega), if_neg (by omega), if_neg (by omega), if_neg (by omega)]
  refine walkBF (And.intro @vcells_mk (And.intro @ncells_mk (And.intro @scells_mk (And.intro e2 (And.intro e3 (And.intro e4 (And.intro e5 (And.intro e6 (And.intro e7 (And.intro e8 (And.intro e14 (And.intro e10 (And.intro e9 (And.intro e11 (And.intro e12 e13))))))))))))))) ?_
  refine .normal ⟨true, hsimple (by omega) (by omega) (by omega) (by omega) true (by rw [hV, hk, if_neg h2, if_neg h3, if_neg h5, if_neg h8, if_neg h14, if_neg h10, if_neg h9, if_neg (by omega), if_neg (by omega), if_neg h13])⟩ ?_
  simp only [hpv, vcells_mk, ncells_mk, scells_mk, Weak, eq_self, used_is, sc_any, sc_c, sc_pp, sc_ref, sc_row, sc_agg, sc_fn, ScL, some_imp, List.forall_mem_map, go_sem, Int.reduceBEq, Int.reduceLE, Int.reduceLT, Int.reduceNeg, Nat.reduceAdd, Nat.reduceEqDiff, Nat.reduceLT, Nat.reduceLeDiff, Nat.reduceMul, Nat.reduceSub, reduceCtorEq, ↓reduceIte]
set_option maxRecDepth 100000 in
set_option maxHeartbeats 800000 in
theorem rConforms_told (s : ST) (hs : s.sm 1000000) (hdp : ∀ n ∈ s.nodes, ∀ f ∈ n.fields, tdeep f.dflt ≤ 1000) (v : VT) (hv : v.sm 1000000) (a : Int) : Told Tryz.prog 19 [s.av, .c (.v (.int .i64 a)), v.av] (.c (.v (.bool (conM s a v (rightM s))))) := by
  obtain ⟨V, hV⟩ : ∃ V, V = conM s a v (rightM s) := ⟨_, rfl⟩
  rw [← hV]
  unfold conM at hV
  have hR := rRight_told s hs hdp
  have hki := fun h : rightM s = true => ordered_kids (right_ordered h)
  generalize rightM s = r at hR hV hki
  simp only [ST.av_eq, scells_mk, List.map_cons, List.map_nil] at hR
  cases r with
  | false =>
    obtain rfl : V = false := by rw [hV]; simp
    rw [VT.av_eq, ST.av_eq, scells_mk]
    refine VC.told ent_19 Tryz.func19 rfl Tryz.ntmps19 (by simp) (by first | rfl | simp [AV.pureB, AV.pureL, pureL_c, pures]) (by first | rfl | simp [AV.pureB, AV.pureL, pureL_c, pures]) fun hb => ?_
    clear hb
    refine walkG ?_
    refine walkC (hR) ?_
    refine walkG ?_
    refine ⟨by first | exact .inr rfl | exact .inl rfl, ?_⟩; rw [Tryz.results19]; simp only [resOk, resV, go_sem, Int.reduceBEq, Int.reduceLE, Int.reduceLT, Int.reduceNeg, Nat.reduceAdd, Nat.reduceEqDiff, Nat.reduceLT, Nat.reduceLeDiff, Nat.reduceMul, Nat.reduceSub, reduceCtorEq, ↓reduceIte]
    exact .c _
  | true =>
    by_cases h1 : 0 ≤ a
    · have e1 : decide (a ≥ 0) = true := by simpa using h1
      by_cases h2 : a < (s.nodes.length : Int)
      · have e2 : decide (a < (s.nodes.length : Int)) = true := by simpa using h2
        have hC := ris_told s (hki rfl) _ v (Nat.le_refl _) hv a h1 h2
        obtain rfl : V = isM s.nodes a v := by rw [hV, e2, show decide (0 ≤ a) = true from e1]; simp
        generalize isM s.nodes a v = B at hC ⊢
        simp only [ST.av_eq, scells_mk, List.map_cons, List.map_nil] at hC
        rw [VT.av_eq] at hC ⊢
        rw [ST.av_eq, scells_mk]
        refine VC.told ent_19 Tryz.func19 rfl Tryz.ntmps19 (by simp) (by first | rfl | simp [AV.pureB, AV.pureL, pureL_c, pures]) (by first | rfl | simp [AV.pureB, AV.pureL, pureL_c, pures]) fun hb => ?_
        clear hb
        refine walkG ?_
        refine walkC (hR) ?_
        refine walkGF (And.intro e1 (And.intro e2 (And.intro @len_vcells (And.intro @take_vcells @take_vcellsC)))) ?_
        refine walkCF (@pureL_c) (hC) ?_
        refine walkG ?_
        refine ⟨by first | exact .inr rfl | exact .inl rfl, ?_⟩; rw [Tryz.results19]; simp only [resOk, resV, go_sem, Int.reduceBEq, Int.reduceLE, Int.reduceLT, Int.reduceNeg, Nat.reduceAdd, Nat.reduceEqDiff, Nat.reduceLT, Nat.reduceLeDiff, Nat.reduceMul, Nat.reduceSub, reduceCtorEq, ↓reduceIte]
        exact .c _
      · have e2 : decide (a < (s.nodes.length : Int)) = false := by simpa using h2
        obtain rfl : V = false := by rw [hV, e2]; simp
        rw [VT.av_eq, ST.av_eq, scells_mk]
        refine VC.told ent_19 Tryz.func19 rfl Tryz.ntmps19 (by simp) (by first | rfl | simp [AV.pureB, AV.pureL, pureL_c, pures]) (by first | rfl | simp [AV.pureB, AV.pureL, pureL_c, pures]) fun hb => ?_
        clear hb
        refine walkG ?_
        refine walkC (hR) ?_
        refine walkGF (And.intro e1 e2) ?_
        refine ⟨by first | exact .inr rfl | exact .inl rfl, ?_⟩; rw [Tryz.results19]; simp only [resOk, resV, go_sem, Int.reduceBEq, Int.reduceLE, Int.reduceLT, Int.reduceNeg, Nat.reduceAdd, Nat.reduceEqDiff, Nat.reduceLT, Nat.reduceLeDiff, Nat.reduceMul, Nat.reduceSub, reduceCtorEq, ↓reduceIte]
        exact .c _
    · have e1 : decide (a ≥ 0) = false := by simpa using h1
      obtain rfl : V = false := by rw [hV, show decide (0 ≤ a) = false from e1]; rfl
      rw [VT.av_eq, ST.av_eq, scells_mk]
      refine VC.told ent_19 Tryz.func19 rfl Tryz.ntmps19 (by simp) (by first | rfl | simp [AV.pureB, AV.pureL, pureL_c, pures]) (by first | rfl | simp [AV.pureB, AV.pureL, pureL_c, pures]) fun hb => ?_
      clear hb
      refine walkG ?_
      refine walkC (hR) ?_
      refine walkGF (e1) ?_
      refine ⟨by first | exact .inr rfl | exact .inl rfl, ?_⟩; rw [Tryz.results19]; simp only [resOk, resV, go_sem, Int.reduceBEq, Int.reduceLE, Int.reduceLT, Int.reduceNeg, Nat.reduceAdd, Nat.reduceEqDiff, Nat.reduceLT, Nat.reduceLeDiff, Nat.reduceMul, Nat.reduceSub, reduceCtorEq, ↓reduceIte]
      exact .c _

set_option maxRecDepth 100000 in
set_option maxHeartbeats 800000 in
theorem vConforms_told (s : ST) (hs : s.sm 1000000) (v : VT) (hv : v.sm 1000000) (a : Int) : Told Tryz.prog 18 [s.av, .c (.v (.int .i64 a)), v.av] (.c (.v (.bool (conM s a v (rightM s))))) := by
  obtain ⟨V, hV⟩ : ∃ V, V = conM s a v (rightM s) := ⟨_, rfl⟩
  rw [← hV]
  unfold conM at hV
  have hR := sRight_told s hs
  have hki := fun h : rightM s = true => ordered_kids (right_ordered h)
  generalize rightM s = r at hR hV hki
  by_cases h1 : 0 ≤ a
  · have e1 : decide (a ≥ 0) = true := by simpa using h1
    rw [show decide (0 ≤ a) = true from e1, Bool.true_and] at hV
    by_cases h2 : a < (s.nodes.length : Int)
    · have e2 : decide (a < (s.nodes.length : Int)) = true := by simpa using h2
      rw [e2, Bool.true_and] at hV
      cases r with
      | false =>
        obtain rfl : V = false := hV
        simp only [ST.av_eq, scells_mk, List.map_cons, List.map_nil] at hR
        rw [VT.av_eq, ST.av_eq, scells_mk]
        refine VC.told ent_18 Tryz.func18 rfl Tryz.ntmps18 (by simp) (by first | rfl | simp [AV.pureB, AV.pureL, pureL_c, pures]) (by first | rfl | simp [AV.pureB, AV.pureL, pureL_c, pures]) fun hb => ?_
        clear hb
        refine walkGF (And.intro e1 e2) ?_
        refine walkC (hR) ?_
        refine walkG ?_
        refine ⟨by first | exact .inr rfl | exact .inl rfl, ?_⟩; rw [Tryz.results18]; simp only [resOk, resV, go_sem, Int.reduceBEq, Int.reduceLE, Int.reduceLT, Int.reduceNeg, Nat.reduceAdd, Nat.reduceEqDiff, Nat.reduceLT, Nat.reduceLeDiff, Nat.reduceMul, Nat.reduceSub, reduceCtorEq, ↓reduceIte]
        exact .c _
      | true =>
        have hC := conforms_told s (hki rfl) _ v (Nat.le_refl _) hv a h1 h2
        obtain rfl : V = isM s.nodes a v := hV
        generalize isM s.nodes a v = B at hC ⊢
        simp only [ST.av_eq, scells_mk, List.map_cons, List.map_nil] at hR hC
        rw [VT.av_eq] at hC ⊢
        rw [ST.av_eq, scells_mk]
        refine VC.told ent_18 Tryz.func18 rfl Tryz.ntmps18 (by simp) (by first | rfl | simp [AV.pureB, AV.pureL, pureL_c, pures]) (by first | rfl | simp [AV.pureB, AV.pureL, pureL_c, pures]) fun hb => ?_
        clear hb
        refine walkGF (And.intro e1 e2) ?_
        refine walkC (hR) ?_
        refine walkGF (And.intro @len_vcells (And.intro @take_vcells @take_vcellsC)) ?_
        refine walkCF (@pureL_c) (hC) ?_
        refine walkG ?_
        refine ⟨by first | exact .inr rfl | exact .inl rfl, ?_⟩; rw [Tryz.results18]; simp only [resOk, resV, go_sem, Int.reduceBEq, Int.reduceLE, Int.reduceLT, Int.reduceNeg, Nat.reduceAdd, Nat.reduceEqDiff, Nat.reduceLT, Nat.reduceLeDiff, Nat.reduceMul, Nat.reduceSub, reduceCtorEq, ↓reduceIte]
        exact .c _
    · have e2 : decide (a < (s.nodes.length : Int)) = false := by simpa using h2
      rw [e2] at hV
      obtain rfl : V = false := hV
      rw [VT.av_eq, ST.av_eq, scells_mk]
      refine VC.told ent_18 Tryz.func18 rfl Tryz.ntmps18 (by simp) (by first | rfl | simp [AV.pureB, AV.pureL, pureL_c, pures]) (by first | rfl | simp [AV.pureB, AV.pureL, pureL_c, pures]) fun hb => ?_
      clear hb
      refine walkGF (And.intro e1 e2) ?_
      refine ⟨by first | exact .inr rfl | exact .inl rfl, ?_⟩; rw [Tryz.results18]; simp only [resOk, resV, go_sem, Int.reduceBEq, Int.reduceLE, Int.reduceLT, Int.reduceNeg, Nat.reduceAdd, Nat.reduceEqDiff, Nat.reduceLT, Nat.reduceLeDiff, Nat.reduceMul, Nat.reduceSub, reduceCtorEq, ↓reduceIte]
      exact .c _
  · have e1 : decide (a ≥ 0) = false := by simpa using h1
    rw [show decide (0 ≤ a) = false from e1] at hV
    obtain rfl : V = false := hV
    rw [VT.av_eq, ST.av_eq, scells_mk]
    refine VC.told ent_18 Tryz.func18 rfl Tryz.ntmps18 (by simp) (by first | rfl | simp [AV.pureB, AV.pureL, pureL_c, pures]) (by first | rfl | simp [AV.pureB, AV.pureL, pureL_c, pures]) fun hb => ?_
    clear hb
    refine walkGF (e1) ?_
    refine ⟨by first | exact .inr rfl | exact .inl rfl, ?_⟩; rw [Tryz.results18]; simp only [resOk, resV, go_sem, Int.reduceBEq, Int.reduceLE, Int.reduceLT, Int.reduceNeg, Nat.reduceAdd, Nat.reduceEqDiff, Nat.reduceLT, Nat.reduceLeDiff, Nat.reduceMul, Nat.reduceSub, reduceCtorEq, ↓reduceIte]
    exact .c _

set_option maxRecDepth 100000 in
set_option maxHeartbeats 400000 in
theorem eqfV_told {g : FuncId} {fs cs : List AV} (hp : AV.pureL fs = true) (hp' : AV.pureL cs = true) (xs ys : List VT) (hcall : ∀ x ∈ xs, ∀ y, Told Tryz.prog g (fs ++ ([x.av, y.av] ++ cs)) (.c (.v (.bool (ceq x y))))) :
    Told Tryz.prog 59 [.c (.sl 6 (xs.map VT.cells)), .c (.sl 6 (ys.map VT.cells)), .fn (.func g) fs cs] (.c (.v (.bool (ceq xs ys)))) := by
  refine VC.told ent_59 Tryz.func59 rfl Tryz.ntmps59 (by simp) (by simp [AV.pureB, AV.pureL, hp, hp']) rfl fun hb => ?_
  simp only [abd_c, pbd_sl, List.mem_cons, List.not_mem_nil, or_false, forall_eq_or_imp, forall_eq, List.length_map] at hb
  have h1 := hb.1.1
  have h2 := hb.2.1.1
  clear hb
  refine walkG ?_
  refine VC.cond (by rfl) (by trivial) (fun hc => ?_) (fun hc => ?_)
  · have hne : ceq xs ys = false := by
      rw [ceq_false]
      intro e
      subst e
      simp at hc
    refine walkG ?_
    refine ⟨.inr rfl, ?_⟩
    rw [Tryz.results59, hne]
    simp only [resOk, resV, go_sem, Int.reduceBEq, Int.reduceLE, Int.reduceLT, Int.reduceNeg, Nat.reduceAdd, Nat.reduceEqDiff, Nat.reduceLT, Nat.reduceLeDiff, Nat.reduceMul, Nat.reduceSub, reduceCtorEq, ↓reduceIte]
    exact .c _
  · have hlen : xs.length = ys.length := by
      simp at hc
      omega
    refine walkG ?_
    refine VC.loop (ι := {i : Nat // i ≤ xs.length ∧ xs.take i = ys.take i}) (fun i => [(1, .c (.sl 6 (ys.map VT.cells))), (2, .fn (.func g) fs cs), (15, .c (.sl 6 (xs.map VT.cells))), (16, .c (.v (.int .i64 xs.length))), (17, .c (.v (.int .i64 i.1)))]) (fun _ => []) 0 (fun i => xs.length - i.1) ⟨0, Nat.zero_le _, rfl⟩ ?_ ?_
    · simp only [sc_pureL hp, sc_pureL hp', Weak, eq_self, used_is, sc_any, sc_c, sc_pp, sc_ref, sc_row, sc_agg, sc_fn, ScL, some_imp, List.forall_mem_map, go_sem, Int.reduceBEq, Int.reduceLE, Int.reduceLT, Int.reduceNeg, Nat.reduceAdd, Nat.reduceEqDiff, Nat.reduceLT, Nat.reduceLeDiff, Nat.reduceMul, Nat.reduceSub, reduceCtorEq, ↓reduceIte]
      all_goals rfl
    rintro ⟨i, hi, ht⟩
    refine walkG ?_
    refine VC.cond (by rfl) (by trivial) (fun hc => ?_) (fun hc => ?_)
    · simp only [decide_eq_true_eq] at hc
      obtain ⟨x, hx⟩ : ∃ x, xs[i]? = some x := ⟨xs[i], List.getElem?_eq_getElem (by omega)⟩
      obtain ⟨y, hy⟩ : ∃ y, ys[i]? = some y := ⟨ys[i], List.getElem?_eq_getElem (by omega)⟩
      have hw : IntKind.i64.wrap ((i : Int) + 1) = (i : Int) + 1 := wrap64_id (by omega) (by omega)
      have hcl := hcall x (List.mem_of_getElem? hx) y
      (repeat (first | refine pass ?_ | refine VC.region (by rfl) (by rfl) ?_ | (refine AO.step fun K hK => ?_; simp only [List.getElem?_map, hx, hy, VT.av, len_vcells, take_vcells, take_vcellsC, go_sem, Int.reduceBEq, Int.reduceLE, Int.reduceLT, Int.reduceNeg, Nat.reduceAdd, Nat.reduceEqDiff, Nat.reduceLT, Nat.reduceLeDiff, Nat.reduceMul, Nat.reduceSub, reduceCtorEq, ↓reduceIte]; (first | refine gsel_skip ?_ | refine gsel_go ?_ | skip); (first | refine hK _ _ _ ?_ | refine ⟨by first | omega | exact ⟨_, rfl, rfl⟩ | exact fun _ => ⟨_, rfl, rfl⟩ | (intro h; simp only [List.getElem?_map, hx, hy, VT.av, len_vcells, take_vcells, take_vcellsC, h, true_and]; omega) | (clear hK; intro h; simp_all <;> omega), hK _ _ _ ?_⟩); clear hK K) | refine VC.draw mixP (by rfl) (by rfl) ?_ | refine ⟨okd_of (by kernel_rfl), ?_⟩ | refine BQ.other (by decide) ?_ | refine VC.seq ?_ | refine AO.nil ?_ | refine VC.block ?_))
      (refine AO.step fun K hK => ?_; simp only [go_sem, Int.reduceBEq, Int.reduceLE, Int.reduceLT, Int.reduceNeg, Nat.reduceAdd, Nat.reduceEqDiff, Nat.reduceLT, Nat.reduceLeDiff, Nat.reduceMul, Nat.reduceSub, reduceCtorEq, ↓reduceIte, VT.av, len_vcells, take_vcells, take_vcellsC, hp, hp', pureL_app, pureL_c, List.append_assoc]; (first | refine gsel_go ?_ | skip))
      refine .inl ⟨_, hcl, hK _ _ _ ?_⟩
      clear hK K
      refine walkG ?_
      refine VC.cond (by rfl) (by trivial) (fun hc2 => ?_) (fun hc2 => ?_)
      · have hne : ceq xs ys = false := by
          rw [ceq_false]
          intro e
          subst e
          rw [hx] at hy
          obtain rfl := Option.some.inj hy
          rw [ceq_self] at hc2
          simp at hc2
        refine walkG ?_
        refine ⟨.inr rfl, ?_⟩
        rw [Tryz.results59, hne]
        simp only [resOk, resV, go_sem, Int.reduceBEq, Int.reduceLE, Int.reduceLT, Int.reduceNeg, Nat.reduceAdd, Nat.reduceEqDiff, Nat.reduceLT, Nat.reduceLeDiff, Nat.reduceMul, Nat.reduceSub, reduceCtorEq, ↓reduceIte]
        exact .c _
      · have hxy : x = y := by
          rw [← ceq_iff]
          simpa using hc2
        refine walkGF (hw) ?_
        refine .next ⟨i + 1, by omega, ?_⟩ ?_ (by simp only []; omega)
        · rw [List.take_add_one, List.take_add_one, hx, hy, ht, hxy]
        simp only [sc_pureL hp, sc_pureL hp', Weak, eq_self, used_is, sc_any, sc_c, sc_pp, sc_ref, sc_row, sc_agg, sc_fn, ScL, some_imp, List.forall_mem_map, go_sem, Int.reduceBEq, Int.reduceLE, Int.reduceLT, Int.reduceNeg, Nat.reduceAdd, Nat.reduceEqDiff, Nat.reduceLT, Nat.reduceLeDiff, Nat.reduceMul, Nat.reduceSub, reduceCtorEq, ↓reduceIte]
        exact cI (by omega)
    · simp only [decide_eq_false_iff_not] at hc
      obtain rfl : i = xs.length := by omega
      have heq : ceq xs ys = true := by
        rw [List.take_length, hlen, List.take_length] at ht
        rw [ceq_iff, ht]
      refine walkG ?_
      refine ⟨.inr rfl, ?_⟩
      rw [Tryz.results59, heq]
      simp only [resOk, resV, go_sem, Int.reduceBEq, Int.reduceLE, Int.reduceLT, Int.reduceNeg, Nat.reduceAdd, Nat.reduceEqDiff, Nat.reduceLT, Nat.reduceLeDiff, Nat.reduceMul, Nat.reduceSub, reduceCtorEq, ↓reduceIte]
      exact .c _
theorem ceq_val (k n b : Int) (s : List UInt8) (xs : List VT) (ks : List (List UInt8)) (k' n' b' : Int) (s' : List UInt8) (xs' : List VT) (ks' : List (List UInt8)) :
    ceq (VT.mk k n b s xs ks) (VT.mk k' n' b' s' xs' ks') = (((((k == k') && (n == n')) && (b == b')) && (s == s')) && (ks == ks') && ceq xs xs') := by
  rw [Bool.eq_iff_iff]
  simp only [ceq_iff, Bool.and_eq_true, beq_iff_eq]
  constructor
  · intro h
    injection h with h1 h2 h3 h4 h5 h6
    exact ⟨⟨⟨⟨⟨h1, h2⟩, h3⟩, h4⟩, h6⟩, h5⟩
  · rintro ⟨⟨⟨⟨⟨rfl, rfl⟩, rfl⟩, rfl⟩, rfl⟩, rfl⟩
    rfl
set_option maxRecDepth 100000 in
set_option maxHeartbeats 400000 in
theorem bequal_told (s t : List UInt8) : Told Tryz.prog 57 [.c (.sl 1 (bytePV s)), .c (.sl 1 (bytePV t))] (.c (.v (.bool (s == t)))) := by
  have e : ∀ l : List UInt8, bstr (bytesOf (bytePV l)) = str l := fun l => by rw [bytesOf_pv]; rfl
  have hs := bytePV_ok s
  have ht := bytePV_ok t
  refine VC.told ent_57 Tryz.func57 rfl Tryz.ntmps57 (by simp) (by first | rfl | simp [AV.pureB, AV.pureL, pureL_c, pures]) (by first | rfl | simp [AV.pureB, AV.pureL, pureL_c, pures]) fun hb => ?_
  clear hb
  refine walkGF (And.intro e @str_toList) ?_
  refine ⟨by first | exact .inr rfl | exact .inl rfl, ?_⟩; rw [Tryz.results57]; simp only [resOk, resV, go_sem, Int.reduceBEq, Int.reduceLE, Int.reduceLT, Int.reduceNeg, Nat.reduceAdd, Nat.reduceEqDiff, Nat.reduceLT, Nat.reduceLeDiff, Nat.reduceMul, Nat.reduceSub, reduceCtorEq, ↓reduceIte]
  exact .c _
set_option maxRecDepth 100000 in
set_option maxHeartbeats 800000 in
theorem vsame_told : ∀ (m : Nat) (v w : VT), SizeOf.sizeOf v ≤ m → Told Tryz.prog 22 [v.av, w.av] (.c (.v (.bool (ceq v w)))) := by
  intro m
  induction m with
  | zero => intro v w hv; cases v; simp at hv
  | succ m ih =>
  intro v w hv
  cases v with
  | mk k n b s xs ks =>
  cases w with
  | mk k' n' b' s' xs' ks' =>
  have hB := bequal_told s s'
  have hS := sequal_told ks ks'
  have hE := eqfV_told (g := 22) (fs := []) (cs := []) rfl rfl xs xs' fun x hx y => ih x y (by
    have h3 := List.sizeOf_lt_of_mem hx
    simp at hv
    omega)
  have hV := ceq_val k n b s xs ks k' n' b' s' xs' ks'
  obtain ⟨V, hVV⟩ : ∃ V, V = ceq (VT.mk k n b s xs ks) (VT.mk k' n' b' s' xs' ks') := ⟨_, rfl⟩
  rw [← hVV] at hV ⊢
  clear hVV ih hv
  generalize (s == s') = b1 at hB hV
  generalize (ks == ks') = b2 at hS hV
  generalize ceq xs xs' = b3 at hE hV
  replace hV := Lib.hid hV
  rw [VT.av_eq, VT.av_eq, vcells_mk, vcells_mk]
  refine VC.told ent_22 Tryz.func22 rfl Tryz.ntmps22 (by simp) (by first | rfl | simp [AV.pureB, AV.pureL, pureL_c, pures]) (by first | rfl | simp [AV.pureB, AV.pureL, pureL_c, pures]) fun hb => ?_
  clear hb
  refine walkG ?_
  refine walkD (hB) ?_
  refine walkG ?_
  refine walkD (hS) ?_
  refine walkG ?_
  refine walkD (hE) ?_
  refine walkG ?_
  refine ⟨by first | exact .inr rfl | exact .inl rfl, ?_⟩; rw [Tryz.results22]; simp only [resOk, resV, go_sem, Int.reduceBEq, Int.reduceLE, Int.reduceLT, Int.reduceNeg, Nat.reduceAdd, Nat.reduceEqDiff, Nat.reduceLT, Nat.reduceLeDiff, Nat.reduceMul, Nat.reduceSub, reduceCtorEq, ↓reduceIte]
  rw [hV.out]
  exact .c _
set_option maxRecDepth 100000 in
set_option maxHeartbeats 800000 in
theorem vdeep_told : ∀ (m : Nat) (v : VT), SizeOf.sizeOf v ≤ m → vdeep v ≤ 1000 → v.sm 1000000 → Told Tryz.prog 24 [v.av] (.c (.v (.int .i64 (vdeep v)))) := by
  intro m
  induction m with
  | zero => intro v hv; cases v; simp at hv
  | succ m ih =>
  intro v hv hd hsm
  cases v with
  | mk k n b s xs ks =>
  obtain ⟨_, _, _, _, hxl, hxs⟩ := hsm
  rw [VT.av_eq, vcells_mk]
  refine VC.told ent_24 Tryz.func24 rfl Tryz.ntmps24 (by simp) (by first | rfl | simp [AV.pureB, AV.pureL, pureL_c, pures]) (by first | rfl | simp [AV.pureB, AV.pureL, pureL_c, pures]) fun hb => ?_
  clear hb
  refine walkG ?_
  rcases (by omega : (k ≠ 9 ∧ k ≠ 11 ∧ k ≠ 12 ∧ k ≠ 13) ∨ k = 9 ∨ k = 11 ∨ k = 12 ∨ k = 13) with ⟨h9, h11, h12, h13⟩ | hk
  · have e9 : (k == 9) = false := by simpa using h9
    have e11 : (k == 11) = false := by simpa using h11
    have e12 : (k == 12) = false := by simpa using h12
    have e13 : (k == 13) = false := by simpa using h13
    have hdd : vdeep (.mk k n b s xs ks) = 0 := by rw [vdeep, if_neg (by omega)]
    rw [hdd, e9]
    refine walkBF (And.intro e9 (And.intro e11 (And.intro e12 e13))) ?_
    refine ⟨by first | exact .inr rfl | exact .inl rfl, ?_⟩; rw [Tryz.results24]; simp only [resOk, resV, go_sem, Int.reduceBEq, Int.reduceLE, Int.reduceLT, Int.reduceNeg, Nat.reduceAdd, Nat.reduceEqDiff, Nat.reduceLT, Nat.reduceLeDiff, Nat.reduceMul, Nat.reduceSub, reduceCtorEq, ↓reduceIte]
    exact .c _
  have hdd : vdeep (.mk k n b s xs ks) = vdeeps 1 xs := by rw [vdeep, if_pos hk]
  rw [hdd] at hd ⊢
  clear hdd
  rcases hk with rfl | rfl | rfl | rfl
  all_goals
    refine walkB ?_
    refine VC.loop (ι := {i : Nat // i ≤ xs.length}) (fun i => [(3, .c (.v (.int .i64 (vdeeps 1 (xs.take i.1))))), (14, .c (.sl 6 (xs.map VT.cells))), (15, .c (.v (.int .i64 xs.length))), (16, .c (.v (.int .i64 i.1)))]) (fun _ => []) 0 (fun i => xs.length - i.1) ⟨0, Nat.zero_le _⟩ ?_ ?_
    · simp only [List.take_zero, vdeeps, List.map_nil, Weak, eq_self, used_is, sc_any, sc_c, sc_pp, sc_ref, sc_row, sc_agg, sc_fn, ScL, some_imp, List.forall_mem_map, go_sem, Int.reduceBEq, Int.reduceLE, Int.reduceLT, Int.reduceNeg, Nat.reduceAdd, Nat.reduceEqDiff, Nat.reduceLT, Nat.reduceLeDiff, Nat.reduceMul, Nat.reduceSub, reduceCtorEq, ↓reduceIte]
    rintro ⟨i, hi⟩
    refine walkG ?_
    refine VC.cond (by rfl) (by trivial) (fun hc => ?_) (fun hc => ?_)
    · simp only [decide_eq_true_eq] at hc
      have hlt : i < xs.length := by omega
      obtain ⟨x, hx⟩ : ∃ x, xs[i]? = some x := ⟨xs[i], List.getElem?_eq_getElem hlt⟩
      have hxm := List.mem_of_getElem? hx
      have hle := (vdeeps_le xs 1).2 x hxm
      have hcall := ih x (by
        have h1 := List.sizeOf_lt_of_mem hxm
        simp at hv
        omega) (by omega) (vsmL_mem hxs x hxm)
      have hmm : vdeeps 1 (xs.take (i + 1)) = max (vdeeps 1 (xs.take i)) (1 + vdeep x) := by
        rw [← vdeeps_snoc, List.take_add_one, hx]
        rfl
      have hxp : (xs.map VT.cells)[i]? = some x.cells := by rw [List.getElem?_map, hx]; rfl
      rw [VT.av_eq] at hcall
      have hw : IntKind.i64.wrap (1 + (vdeep x : Int)) = 1 + (vdeep x : Int) := wrap64_id (by omega) (by omega)
      have hw2 : IntKind.i64.wrap ((i : Int) + 1) = (i : Int) + 1 := wrap64_id (by omega) (by omega)
      refine walkGF (And.intro hxp (And.intro @len_vcells (And.intro @take_vcells @take_vcellsC))) ?_
      refine walkCF (@pureL_c) (hcall) ?_
      refine walkGF (And.intro hw hw2) ?_
      refine .next ⟨i + 1, by omega⟩ ?_ (by simp only []; omega)
      simp only [hmm, Weak, eq_self, used_is, sc_any, sc_c, sc_pp, sc_ref, sc_row, sc_agg, sc_fn, ScL, some_imp, List.forall_mem_map, go_sem, Int.reduceBEq, Int.reduceLE, Int.reduceLT, Int.reduceNeg, Nat.reduceAdd, Nat.reduceEqDiff, Nat.reduceLT, Nat.reduceLeDiff, Nat.reduceMul, Nat.reduceSub, reduceCtorEq, ↓reduceIte]
      exact ⟨cI (by omega), cI (by omega)⟩
    · simp only [decide_eq_false_iff_not] at hc
      obtain rfl : i = xs.length := by omega
      refine walkG ?_
      refine ⟨by first | exact .inr rfl | exact .inl rfl, ?_⟩; rw [Tryz.results24]; simp only [resOk, resV, go_sem, Int.reduceBEq, Int.reduceLE, Int.reduceLT, Int.reduceNeg, Nat.reduceAdd, Nat.reduceEqDiff, Nat.reduceLT, Nat.reduceLeDiff, Nat.reduceMul, Nat.reduceSub, reduceCtorEq, ↓reduceIte]
      rw [List.take_length]
      exact .c _
end
end Go.Proofs.YtmooihlndkgdaaaGreatDoor
