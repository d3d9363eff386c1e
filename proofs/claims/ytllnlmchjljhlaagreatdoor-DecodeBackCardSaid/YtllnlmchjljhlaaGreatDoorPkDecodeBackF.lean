/- Texts that lead to the law DecodeBack, joined. -/
import Derived.Test.YtllnlmchjljhlaaGreatDoorPkDecodeBackD
import Derived.Test.YtllnlmchjljhlaaGreatDoorPkDecodeBackE
import Derived.Test.YtllnlmchjljhlaaGreatDoorPkDecodeBackXAbB
import Derived.Test.YtllnlmchjljhlaaGreatDoorShi
import Derived.Test.YtllnlmchjljhlaaGreatDoorPkDecodeBackA
import Derived.Test.YtllnlmchjljhlaaGreatDoorPkDecodeBackB
namespace Go.Proofs.YtllnlmchjljhlaaGreatDoor
open Go.RowKit
set_option linter.unusedVariables false
set_option linter.unusedSimpArgs false
section
attribute [local go_sem] opx opE ev okx gcond bnd okO AV.get AV.okb cAV upd_at putd_some putd_none wrs_nil wrs_cons look_nil look_cons st argT_at bpick_and bpick_or bpick_true bpick_false binV binI binS binVOk binOk isShift binSOk unV unVOk loadV loadP cellsA zeroA Blkd.len setE grown moreA moreR moreOk eqRes pv fillA fillE putSeg AV.cellish AV.pureL AV.pureB lentL_is ex_some AV.ren AV.renL renL_c Blkd.ren rho wrM renN lentOk rhoE keepM endOk tyA_2 tyA_3 tyA_4 tyA_5 tyA_6 tyA_7 tyA_8 tyA_9 tyA_10 tyA_11 tyA_12 tyA_13 tyA_14 tyA_15 tyA_16 tyA_17 tyA_18 tyA_19 tyA_21 tyA_22 tyA_23 tyA_24 tyA_29 tyA_30 tyA_31 tyA_32 tyA_33 tyA_34 tyA_35 tyA_36 tyA_37 tyA_38 tyA_39 tyA_40 tyA_41 tyA_42 tyA_43 tyA_49 tyA_85 tyA_89 tyA_99 tyA_100 tyA_101 tyA_105 tyA_106 tyA_107 tyA_108 tyA_109 tyA_111 tyA_112 tyA_113 tyA_114 tyA_123 tyA_126 tyA_127 tyA_128 tyA_129 tyA_130 tyA_153 tyA_163 tyA_164 tyA_165 tyA_179 tyA_185 tyA_191 tyA_192 tyA_193 tyA_194 tyA_195 tyA_196 tyA_209 tyA_213 tyA_214 tyA_215 tyA_241 tyA_248 tyA_274 tyA_275 tyA_276 tyA_292 tyA_294 tyA_302 tyA_307 tyA_315 tyA_319 tyA_321 tyA_324 tyA_325 tyA_326 tyA_327 tyA_328 tyA_329 tyA_330 tyA_332 tyA_333 Option.map_some Option.map_none Option.getD_some Option.getD_none Option.bind_some Option.bind_none List.getElem?_cons_zero List.getElem?_cons_succ List.getElem?_nil List.getElem?_toArray List.length_cons List.length_nil List.length_map List.forall_mem_map List.map_cons List.map_nil List.drop_zero List.drop_succ_cons List.drop_nil List.take_zero List.take_succ_cons List.take_nil List.mem_cons List.not_mem_nil or_false forall_eq_or_imp forall_eq List.set_cons_zero List.set_cons_succ List.cons_append List.nil_append List.append_nil List.foldl_cons List.foldl_nil List.replicate_succ List.replicate_zero List.all_cons List.all_nil if_true if_false Bool.false_eq_true ne_eq not_false_eq_true not_true_eq_false true_and and_true and_self true_implies imp_self implies_true forall_const beq_self_eq_true Bool.and_true Bool.true_and Bool.and_false Bool.false_and Bool.or_true Bool.true_or Bool.or_false Bool.false_or Bool.not_true Bool.not_false Bool.not_eq_eq_eq_not intKindOf Value.oneCell' Int.toNat_natCast beq_true beq_false Bool.not_eq_true false_implies false_or true_or or_true Nat.zero_add Nat.add_zero decide_true decide_false Int.cast_ofNat_Int Int.toNat_zero Int.toNat_one eq_self

set_option maxRecDepth 100000 in
set_option maxHeartbeats 800000 in
theorem put1_told (ns : List NT) (r : Int) (cuts : List Int) (nd : NT) (k n b : Int) (t : List UInt8) (xs : List VT) (ks : List (List UInt8)) (i : Nat) (x : VT) (hx : xs[i]? = some x) (l : List UInt8) (c : Nat) (e : List UInt8 × Nat)
    (hP : ToldM Tryz.prog 81 [.ref 1000000 1 0 0, .row 1000001 l.length, .c (.v (.int .i64 nd.items)), x.av] [xE ns r cuts c, bB l] [some (xE ns r cuts e.2), some (bB (l ++ e.1))] (.row 1000001 (l ++ e.1).length)) :
    ToldM Tryz.prog 154 [.row 1000001 l.length, .c (.v (.int .i64 (i : Int))), .ref 1000002 1 0 0, .pp nd.cells, .pp (VT.mk k n b t xs ks).cells] [xE ns r cuts c, bB l, pE] [some (xE ns r cuts e.2), some (bB (l ++ e.1)), some pE] (.row 1000001 (l ++ e.1).length) := by
  have hxp : (xs.map VT.cells)[i]? = some x.cells := by rw [List.getElem?_map, hx]; rfl
  have hlt := (List.getElem?_eq_some_iff.1 hx).1
  obtain ⟨o, c'⟩ := e
  simp only [] at hP ⊢
  obtain ⟨m, hm⟩ : ∃ m, m = l ++ o := ⟨_, rfl⟩
  rw [← hm] at hP ⊢
  rw [VT.av_eq] at hP
  unfold bB xE at hP
  unfold bB xE pE
  refine VC.toldM ent_154 [] Tryz.func154 rfl Tryz.ntmps154 (by simp) (by simp only [ bA_len, bA_sc, ScM, zOk, inL, eq_self, used_is, sc_any, sc_c, sc_pp, sc_ref, sc_row, sc_agg, sc_tup, sc_fn, ScL, some_imp, List.forall_mem_map, Nat.le_refl, go_sem, simprocAttr]) (by simp only [ bA_len, bA_sc, ScM, zOk, inL, eq_self, used_is, sc_any, sc_c, sc_pp, sc_ref, sc_row, sc_agg, sc_tup, sc_fn, ScL, some_imp, List.forall_mem_map, Nat.le_refl, go_sem, simprocAttr]) (by simp only [ bA_len, bA_sc, ScM, zOk, inL, eq_self, used_is, sc_any, sc_c, sc_pp, sc_ref, sc_row, sc_agg, sc_tup, sc_fn, ScL, some_imp, List.forall_mem_map, Nat.le_refl, go_sem, simprocAttr]) (by simp only [ bA_len, bA_sc, ScM, zOk, inL, eq_self, used_is, sc_any, sc_c, sc_pp, sc_ref, sc_row, sc_agg, sc_tup, sc_fn, ScL, some_imp, List.forall_mem_map, Nat.le_refl, go_sem, simprocAttr]) (by simp) fun hb hbL => ?_
  clear hb hbL
  refine walkGF (And.intro @vcells_mk (And.intro @ncells_mk (And.intro hxp (And.intro @bA_len (And.intro @len_vcells (And.intro @take_vcells @take_vcellsC)))))) ?_
  ((refine AO.step fun K hK => ?_; simp only [go_sem, Int.reduceBEq, Int.reduceLE, Int.reduceLT, Int.reduceNeg, Nat.reduceAdd, Nat.reduceEqDiff, Nat.reduceLT, Nat.reduceLeDiff, Nat.reduceMul, Nat.reduceSub, reduceCtorEq, ↓reduceIte, bA_len, bA_ren]; (first | refine gsel_go ?_ | skip)); refine .inr (.inr (.inl ⟨?vy1, [1000000, 1000001], ?va1, ?vl1, ?vm1, ?cond1, ?cont1⟩)); (case cond1 => ((repeat' apply And.intro) <;> (try ((with_reducible show ToldM _ _ _ _ _ _); exact hP))); (all_goals first | trivial | (simp only [bA_len, bA_ren, go_sem, simprocAttr]; done) | (simp; done) | rfl)); (first | refine hK _ _ _ ?_ | (simp only [bA_len, bA_ren, go_sem, simprocAttr]; first | refine hK _ _ _ ?_ | refine ⟨rfl, hK _ _ _ ?_⟩)); clear hK K)
  refine walkGF (And.intro @bA_len @bA_ren) ?_
  refine ⟨by first | exact .inr rfl | exact .inl rfl, ?_⟩; rw [Tryz.results154]; simp only [bA_ren, bA_len, resOk, resV, go_sem, simprocAttr]
  exact .keepW rfl
set_option maxRecDepth 100000 in
set_option maxHeartbeats 800000 in
theorem put2_told (ns : List NT) (r : Int) (cuts : List Int) (nd : NT) (k n b : Int) (t : List UInt8) (xs : List VT) (ks : List (List UInt8)) (i : Nat) (x : VT) (hx : xs[i]? = some x) (y : List UInt8) (hy : ks[i]? = some y) (hyl : y.length ≤ 1000000) (l : List UInt8) (hl : l.length ≤ 90000000) (c : Nat) (e : List UInt8 × Nat)
    (hP : ToldM Tryz.prog 81 [.ref 1000000 1 0 0, .row 1000001 (l ++ (vput (y.length : Int) ++ y)).length, .c (.v (.int .i64 nd.items)), x.av] [xE ns r cuts c, bB (l ++ (vput (y.length : Int) ++ y))] [some (xE ns r cuts e.2), some (bB ((l ++ (vput (y.length : Int) ++ y)) ++ e.1))] (.row 1000001 ((l ++ (vput (y.length : Int) ++ y)) ++ e.1).length)) :
    ToldM Tryz.prog 155 [.row 1000001 l.length, .c (.v (.int .i64 (i : Int))), .ref 1000002 1 0 0, .pp (VT.mk k n b t xs ks).cells, .pp nd.cells] [xE ns r cuts c, bB l, pE] [some (xE ns r cuts e.2), some (bB (l ++ ((vput (y.length : Int) ++ y) ++ e.1))), some pE] (.row 1000001 (l ++ ((vput (y.length : Int) ++ y) ++ e.1)).length) := by
  have hxp : (xs.map VT.cells)[i]? = some x.cells := by rw [List.getElem?_map, hx]; rfl
  have hyp : (ks.map sPV)[i]? = some (sPV y) := by rw [List.getElem?_map, hy]; rfl
  have hlt := (List.getElem?_eq_some_iff.1 hx).1
  have hlt2 := (List.getElem?_eq_some_iff.1 hy).1
  have hB := pbytes_told l y (by omega) (by omega)
  obtain ⟨o, c'⟩ := e
  simp only [] at hP ⊢
  obtain ⟨p, hp⟩ : ∃ p, p = l ++ (vput (y.length : Int) ++ y) := ⟨_, rfl⟩
  rw [← List.append_assoc, ← hp]
  rw [← hp] at hP hB
  obtain ⟨m, hm⟩ : ∃ m, m = p ++ o := ⟨_, rfl⟩
  rw [← hm] at hP ⊢
  rw [VT.av_eq] at hP
  have hbs : bytePV (str y).data.toList = bytePV y := by rw [str_dl]
  unfold bB xE at hP
  unfold bB at hB
  unfold bB xE pE
  refine VC.toldM ent_155 [] Tryz.func155 rfl Tryz.ntmps155 (by simp) (by simp only [ bA_len, bA_sc, ScM, zOk, inL, eq_self, used_is, sc_any, sc_c, sc_pp, sc_ref, sc_row, sc_agg, sc_tup, sc_fn, ScL, some_imp, List.forall_mem_map, Nat.le_refl, go_sem, simprocAttr]) (by simp only [ bA_len, bA_sc, ScM, zOk, inL, eq_self, used_is, sc_any, sc_c, sc_pp, sc_ref, sc_row, sc_agg, sc_tup, sc_fn, ScL, some_imp, List.forall_mem_map, Nat.le_refl, go_sem, simprocAttr]) (by simp only [ bA_len, bA_sc, ScM, zOk, inL, eq_self, used_is, sc_any, sc_c, sc_pp, sc_ref, sc_row, sc_agg, sc_tup, sc_fn, ScL, some_imp, List.forall_mem_map, Nat.le_refl, go_sem, simprocAttr]) (by simp only [ bA_len, bA_sc, ScM, zOk, inL, eq_self, used_is, sc_any, sc_c, sc_pp, sc_ref, sc_row, sc_agg, sc_tup, sc_fn, ScL, some_imp, List.forall_mem_map, Nat.le_refl, go_sem, simprocAttr]) (by simp) fun hb hbL => ?_
  clear hb hbL
  refine walkGF (And.intro @vcells_mk (And.intro @ncells_mk (And.intro hxp (And.intro hyp (And.intro @sPV_eq (And.intro @str_size (And.intro hbs (And.intro @bA_len (And.intro @len_vcells (And.intro @take_vcells @take_vcellsC)))))))))) ?_
  ((refine AO.step fun K hK => ?_; simp only [go_sem, Int.reduceBEq, Int.reduceLE, Int.reduceLT, Int.reduceNeg, Nat.reduceAdd, Nat.reduceEqDiff, Nat.reduceLT, Nat.reduceLeDiff, Nat.reduceMul, Nat.reduceSub, reduceCtorEq, ↓reduceIte, bA_len, bA_ren]; (first | refine gsel_go ?_ | skip)); refine .inr (.inr (.inl ⟨?vy2, [1000001], ?va2, ?vl2, ?vm2, ?cond2, ?cont2⟩)); (case cond2 => ((repeat' apply And.intro) <;> (try ((with_reducible show ToldM _ _ _ _ _ _); exact hB))); (all_goals first | trivial | (simp only [bA_len, bA_ren, go_sem, simprocAttr]; done) | (simp; done) | rfl)); (first | refine hK _ _ _ ?_ | (simp only [bA_len, bA_ren, go_sem, simprocAttr]; first | refine hK _ _ _ ?_ | refine ⟨rfl, hK _ _ _ ?_⟩)); clear hK K)
  refine walkGF (And.intro @vcells_mk (And.intro @ncells_mk (And.intro hxp (And.intro @bA_len (And.intro @bA_ren (And.intro @len_vcells (And.intro @take_vcells @take_vcellsC))))))) ?_
  ((refine AO.step fun K hK => ?_; simp only [go_sem, Int.reduceBEq, Int.reduceLE, Int.reduceLT, Int.reduceNeg, Nat.reduceAdd, Nat.reduceEqDiff, Nat.reduceLT, Nat.reduceLeDiff, Nat.reduceMul, Nat.reduceSub, reduceCtorEq, ↓reduceIte, bA_len, bA_ren]; (first | refine gsel_go ?_ | skip)); refine .inr (.inr (.inl ⟨?vy3, [1000000, 1000001], ?va3, ?vl3, ?vm3, ?cond3, ?cont3⟩)); (case cond3 => ((repeat' apply And.intro) <;> (try ((with_reducible show ToldM _ _ _ _ _ _); exact hP))); (all_goals first | trivial | (simp only [bA_len, bA_ren, go_sem, simprocAttr]; done) | (simp; done) | rfl)); (first | refine hK _ _ _ ?_ | (simp only [bA_len, bA_ren, go_sem, simprocAttr]; first | refine hK _ _ _ ?_ | refine ⟨rfl, hK _ _ _ ?_⟩)); clear hK K)
  refine walkGF (And.intro @bA_len @bA_ren) ?_
  refine ⟨by first | exact .inr rfl | exact .inl rfl, ?_⟩; rw [Tryz.results155]; simp only [bA_ren, bA_len, resOk, resV, go_sem, simprocAttr]
  exact .keepW rfl

theorem told_plain {P : Program} {f : FuncId} {xs : List Value} {r : Value} (hE : Enters P f) (hr : r.oneCell' = true) (h : ∀ W : World, Calls P f xs.toArray W fun e w' => e = .returned r ∧ w' = W) : Told P f (xs.map fun x => .c (.v x)) (.c (.v r)) := by
  refine ⟨hE, fun W ro vs hro hgk hl => ?_⟩
  have hvs : vs = xs := by
    apply List.ext_getElem?
    intro k
    by_cases hk : k < xs.length
    · have hkv : k < vs.length := by rw [hl.1]; simpa using hk
      have := hl.2 k _ _ (by rw [List.getElem?_map, List.getElem?_eq_getElem hk]; rfl) (List.getElem?_eq_getElem hkv)
      rw [List.getElem?_eq_getElem hkv, rep_prim this, List.getElem?_eq_getElem hk]
    · rw [List.getElem?_eq_none (by rw [hl.1]; simpa using hk), List.getElem?_eq_none (by omega)]
  subst hvs
  refine (h W).mono ?_
  rintro e W' ⟨rfl, rfl⟩
  exact ⟨r, ro, rfl, Below.refl _ _, fun b h => h, fun b h => ⟨.inl h, hro b h⟩, .c (.v hr), .c _⟩

set_option maxRecDepth 100000 in
set_option maxHeartbeats 800000 in
theorem letter_told (c : UInt8) : Told Tryz.prog 225 [.c (.v (.int .u8 (c.toNat : Int)))] (.c (.v (.bool (isLet c)))) := by
  obtain ⟨V, hV⟩ : ∃ V, V = isLet c := ⟨_, rfl⟩
  rw [← hV]
  obtain ⟨y, hy⟩ : ∃ y : Int, y = (c.toNat : Int) := ⟨_, rfl⟩
  rw [← hy]
  have hv : V = ((decide (y ≥ 97) && decide (y ≤ 122)) || ((decide (y ≥ 65) && decide (y ≤ 90)) || (y == 95))) := by
    have e : (y == 95) = decide (c.toNat = 95) := by
      rw [hy]
      by_cases h : c.toNat = 95
      · simp [h]
      · have : ¬ ((c.toNat : Int) = 95) := by omega
        simp [h, this]
    rw [hV, isLet, e, hy]
    congr 1
    · congr 1 <;> simp <;> omega
    · congr 1
      congr 1 <;> simp <;> omega
  clear hV hy
  replace hv := Lib.hid hv
  refine VC.told ent_225 Tryz.func225 rfl Tryz.ntmps225 (by simp) (by first | rfl | simp [AV.pureB, AV.pureL, pureL_c, pures]) (by first | rfl | simp [AV.pureB, AV.pureL, pureL_c, pures]) fun hb => ?_
  clear hb
  (repeat (first | refine pass ?_ | refine VC.region (by rfl) (by rfl) ?_ | (refine AO.step fun K hK => ?_; simp only [List.append_assoc, go_sem, Int.reduceBEq, Int.reduceLE, Int.reduceLT, Int.reduceNeg, Nat.reduceAdd, Nat.reduceEqDiff, Nat.reduceLT, Nat.reduceLeDiff, Nat.reduceMul, Nat.reduceSub, reduceCtorEq, ↓reduceIte]; (first | refine gsel_skip ?_ | refine gsel_go ?_ | skip); (first | refine hK _ _ _ ?_ | refine ⟨by first | omega | exact ⟨_, rfl, rfl⟩ | exact fun _ => ⟨_, rfl, rfl⟩ | (intro h; simp only [List.append_assoc, h, true_and]; omega) | (clear hK; intro h; simp_all <;> omega), hK _ _ _ ?_⟩); clear hK K) | refine VC.draw mixP (by rfl) (by rfl) ?_ | refine ⟨okd_of (by kernel_rfl), ?_⟩ | refine BQ.other (by decide) ?_ | refine VC.seq ?_ | refine AO.nil ?_ | refine VC.block ?_))
  refine ⟨by first | exact .inr rfl | exact .inl rfl, ?_⟩; rw [Tryz.results225]; simp only [resOk, resV, go_sem, simprocAttr]
  have hv2 : V = ((decide (y ≥ 97) && decide (y ≤ 122)) || (decide (y ≥ 65) && decide (y ≤ 90)) || (y == 95)) := by rw [hv.out, Bool.or_assoc]
  rw [hv2]
  exact .c _
def okAt (i : Nat) (c : UInt8) : Bool := isLet c || (decide (0 < i) && isDig c)
theorem simp1_at {s : List UInt8} : simp1 s = true ↔ s ≠ [] ∧ ∀ (i : Nat) (c : UInt8), s[i]? = some c → okAt i c = true := by
  cases s with
  | nil => simp [simp1]
  | cons x xs =>
    simp only [simp1, Bool.and_eq_true, List.all_eq_true, ne_eq, reduceCtorEq, not_false_eq_true, true_and]
    constructor
    · rintro ⟨h1, h2⟩ i c hc
      match i with
      | 0 =>
        simp at hc
        subst hc
        simp [okAt, h1]
      | i + 1 =>
        rw [List.getElem?_cons_succ] at hc
        have := h2 c (List.mem_of_getElem? hc)
        simpa [okAt] using this
    · intro h
      refine ⟨by simpa [okAt] using h 0 x rfl, fun c hc => ?_⟩
      obtain ⟨i, hi⟩ := List.getElem?_of_mem hc
      simpa [okAt] using h (i + 1) c (by rw [List.getElem?_cons_succ]; exact hi)
set_option maxRecDepth 100000 in
set_option maxHeartbeats 800000 in
theorem simple1_told (s : List UInt8) (hs : s.length ≤ 1000000000) : Told Tryz.prog 171 [.c (.v (.string (str s)))] (.c (.v (.bool (simp1 s)))) := by
  obtain ⟨V, hV⟩ : ∃ V, V = simp1 s := ⟨_, rfl⟩
  rw [← hV]
  refine VC.told ent_171 Tryz.func171 rfl Tryz.ntmps171 (by simp) (by first | rfl | simp [AV.pureB, AV.pureL, pureL_c, pures]) (by first | rfl | simp [AV.pureB, AV.pureL, pureL_c, pures]) fun hb => ?_
  clear hb
  refine walkGF (@str_size) ?_
  refine VC.loop (ι := {i : Nat // i ≤ s.length ∧ ∀ (j : Nat) (c : UInt8), j < i → s[j]? = some c → okAt j c = true})
    (fun q => [(0, .c (.v (.string (str s)))), (5, .c (.v (.int .i64 (s.length : Int)))), (6, .c (.v (.int .i64 (q.1 : Int))))]) (fun _ => []) 800 (fun q => s.length - q.1) ⟨0, Nat.zero_le _, fun j c h => by omega⟩ ?_ ?_
  · simp only [Weak, eq_self, used_is, sc_any, sc_c, sc_pp, sc_ref, sc_row, sc_agg, sc_fn, ScL, some_imp, List.forall_mem_map, go_sem, Int.reduceBEq, Int.reduceLE, Int.reduceLT, Int.reduceNeg, Nat.reduceAdd, Nat.reduceEqDiff, Nat.reduceLT, Nat.reduceLeDiff, Nat.reduceMul, Nat.reduceSub, reduceCtorEq, ↓reduceIte]
    try trivial
  rintro ⟨i, hi, ht⟩
  simp only []
  refine walkG ?_
  refine VC.cond (by rfl) (by trivial) (fun hc => ?_) (fun hc => ?_)
  · have hlt : i < s.length := by simp at hc; omega
    obtain ⟨c, hx⟩ : ∃ c, s[i]? = some c := ⟨s[i], List.getElem?_eq_getElem hlt⟩
    have hw : IntKind.i64.wrap ((i : Int) + 1) = (i : Int) + 1 := wrap64_id (by omega) (by omega)
    have hL := letter_told c
    refine walkGF (And.intro @str_size (And.intro @str_dl hx)) ?_
    refine walkC (hL) ?_
    refine walkGF (And.intro @str_size (And.intro @str_dl hx)) ?_
    refine VC.cond (by rfl) (by trivial) (fun hc2 => ?_) (fun hc2 => ?_)
    · have hf : V = false := by
        cases h : V with
        | false => rfl
        | true =>
          rw [hV, simp1_at] at h
          have := h.2 i c hx
          cases hl : isLet c with
          | true => simp [hl] at hc2
          | false =>
            simp [okAt, isDig, hl] at this hc2
            omega
      subst hf
      refine walkG ?_
      refine ⟨by first | exact .inr rfl | exact .inl rfl, ?_⟩; rw [Tryz.results171]; simp only [resOk, resV, go_sem, simprocAttr]
      exact .c _
    · refine walkGF (hw) ?_
      refine .next ⟨i + 1, by omega, ?_⟩ ?_ (by simp only []; omega)
      · intro j d hj hd
        by_cases hji : j < i
        · exact ht j d hji hd
        · obtain rfl : j = i := by omega
          rw [hx] at hd
          obtain rfl := Option.some.inj hd
          cases hl : isLet c with
          | true => simp [okAt, hl]
          | false =>
            simp [okAt, isDig, hl] at hc2 ⊢
            omega
      simp only [Weak, eq_self, used_is, sc_any, sc_c, sc_pp, sc_ref, sc_row, sc_agg, sc_fn, ScL, some_imp, List.forall_mem_map, go_sem, Int.reduceBEq, Int.reduceLE, Int.reduceLT, Int.reduceNeg, Nat.reduceAdd, Nat.reduceEqDiff, Nat.reduceLT, Nat.reduceLeDiff, Nat.reduceMul, Nat.reduceSub, reduceCtorEq, ↓reduceIte]
      try exact cI (by omega)
  · have hE : (⟨#[]⟩ : ByteArray).toList = [] := str_toList []
    have hie : i = s.length := by simp at hc; omega
    have hf : V = !(s == []) := by
      rw [hV, Bool.eq_iff_iff, simp1_at]
      constructor
      · rintro ⟨h1, _⟩
        simpa using h1
      · intro h1
        refine ⟨by simpa using h1, fun j c hj => ht j c ?_ hj⟩
        have := (List.getElem?_eq_some_iff.1 hj).1
        omega
    refine walkGF (And.intro @str_toList hE) ?_
    refine ⟨by first | exact .inr rfl | exact .inl rfl, ?_⟩; rw [Tryz.results171]; simp only [resOk, resV, go_sem, simprocAttr]
    rw [hf]
    exact .c _
set_option maxRecDepth 100000 in
set_option maxHeartbeats 800000 in
theorem simple_told (s : List UInt8) (hs : s.length ≤ 1000000000) : Told Tryz.prog 168 [.c (.v (.string (str s)))] (.c (.v (.bool (simpleM s)))) := by
  obtain ⟨V, hV⟩ : ∃ V, V = simpleM s := ⟨_, rfl⟩
  rw [← hV]
  have hv : V = (decide ((s.length : Int) ≤ 100) && simp1 s) := by
    rw [hV, simpleM]
    congr 1
    simp
    omega
  have hT := simple1_told s hs
  clear hV
  refine VC.told ent_168 Tryz.func168 rfl Tryz.ntmps168 (by simp) (by first | rfl | simp [AV.pureB, AV.pureL, pureL_c, pures]) (by first | rfl | simp [AV.pureB, AV.pureL, pureL_c, pures]) fun hb => ?_
  clear hb
  refine walkGF (@str_size) ?_
  refine walkD (hT) ?_
  refine walkG ?_
  refine ⟨by first | exact .inr rfl | exact .inl rfl, ?_⟩; rw [Tryz.results168]; simp only [resOk, resV, go_sem, simprocAttr]
  rw [hv]
  exact .c _

theorem index_take (c : UInt8) : ∀ s : List UInt8, (Lib.indexByte s c = -1 ∧ s.takeWhile (· != c) = s ∧ s.dropWhile (· != c) = []) ∨ (∃ i : Nat, i < s.length ∧ Lib.indexByte s c = (i : Int) ∧ s.takeWhile (· != c) = s.take i ∧ s.dropWhile (· != c) = c :: s.drop (i + 1))
  | [] => .inl ⟨rfl, rfl, rfl⟩
  | x :: xs => by
    by_cases h : x = c
    · subst h
      exact .inr ⟨0, by simp, by simp [Lib.indexByte], by simp, by simp⟩
    · have hb : (x == c) = false := by simp [h]
      have hb' : (x != c) = true := by simp [h]
      rcases index_take c xs with ⟨h1, h2, h3⟩ | ⟨i, h0, h1, h2, h3⟩
      · exact .inl ⟨by simp [Lib.indexByte, hb, h1], by rw [List.takeWhile_cons, if_pos hb', h2], by rw [List.dropWhile_cons, if_pos hb', h3]⟩
      · refine .inr ⟨i + 1, by simp; omega, ?_, by rw [List.takeWhile_cons, if_pos hb', h2]; rfl, by rw [List.dropWhile_cons, if_pos hb', h3]; rfl⟩
        rw [Lib.indexByte, hb, h1]
        have : ((i : Int) == -1) = false := by simp
        simp [this]
theorem str_extract (l : List UInt8) (a b : Nat) : (str l).extract a b = str ((l.take b).drop a) := by
  apply ByteArray.ext
  simp [str, ByteArray.data_extract, List.drop_take]
theorem index_told (s : List UInt8) : Told Tryz.prog 255 [.c (.v (.string (str s))), .c (.v (.string ⟨#[46]⟩))] (.c (.v (.int .i64 (Lib.indexByte s 46)))) :=
  told_plain (xs := [.string (str s), .string ⟨#[46]⟩]) ent_255 rfl fun W => Tryz.stringslite_Index_one (str s) 46 W
set_option maxRecDepth 100000 in
set_option maxHeartbeats 800000 in
theorem cut0_told (s : List UInt8) (hs : s.length ≤ 1000000000) : Told Tryz.prog 224 [.c (.v (.string (str s))), .c (.v (.string ⟨#[46]⟩))] (.tup [.c (.v (.string (str (s.takeWhile (· != 46))))), .c (.v (.string (str (s.dropWhile (· != 46)).tail))), .c (.v (.bool (!(s.dropWhile (· != 46)).isEmpty)))]) := by
  have hI := index_told s
  rcases index_take 46 s with ⟨h1, h2, h3⟩ | ⟨i, h0, h1, h2, h3⟩
  · rw [h2, h3]
    rw [h1] at hI
    refine VC.told ent_224 Tryz.func224 rfl Tryz.ntmps224 (by simp) (by first | rfl | simp [AV.pureB, AV.pureL, pureL_c, pures]) (by first | rfl | simp [AV.pureB, AV.pureL, pureL_c, pures]) fun hb => ?_
    clear hb
    refine walkG ?_
    refine walkC (hI) ?_
    refine walkB ?_
    refine ⟨by first | exact .inr rfl | exact .inl rfl, ?_⟩; rw [Tryz.results224]; simp only [resOk, resV, go_sem, simprocAttr]
    exact ⟨.c _, .c _, .c _⟩
  · rw [h2, h3]
    rw [h1] at hI
    have hd : decide ((i : Int) ≥ 0) = true := by simp
    have hz : (⟨#[46]⟩ : ByteArray).size = 1 := rfl
    have hw : IntKind.i64.wrap ((i : Int) + 1) = (i : Int) + 1 := wrap64_id (by omega) (by omega)
    have hx1 : (str s).extract 0 i = str (s.take i) := by
      rw [str_extract, List.drop_zero]
    have hx2 : (str s).extract (i + 1) s.length = str (s.drop (i + 1)) := by
      rw [str_extract, List.take_length]
    have ht : ((i : Int) + 1).toNat = i + 1 := by omega
    refine VC.told ent_224 Tryz.func224 rfl Tryz.ntmps224 (by simp) (by first | rfl | simp [AV.pureB, AV.pureL, pureL_c, pures]) (by first | rfl | simp [AV.pureB, AV.pureL, pureL_c, pures]) fun hb => ?_
    clear hb
    refine walkG ?_
    refine walkC (hI) ?_
    refine walkBF (And.intro hd (And.intro hz (And.intro hw @str_size))) ?_
    refine ⟨by first | exact .inr rfl | exact .inl rfl, ?_⟩; rw [Tryz.results224]; simp only [resOk, resV, go_sem, simprocAttr]
    rw [ht, hx1, hx2]
    exact ⟨.c _, .c _, .c _⟩
theorem cut_told (s : List UInt8) (hs : s.length ≤ 1000000000) : Told Tryz.prog 170 [.c (.v (.string (str s))), .c (.v (.string ⟨#[46]⟩))] (.tup [.c (.v (.string (str (s.takeWhile (· != 46))))), .c (.v (.string (str (s.dropWhile (· != 46)).tail))), .c (.v (.bool (!(s.dropWhile (· != 46)).isEmpty)))]) := by
  have hI := cut0_told s hs
  refine VC.told ent_170 Tryz.func170 rfl Tryz.ntmps170 (by simp) (by first | rfl | simp [AV.pureB, AV.pureL, pureL_c, pures]) (by first | rfl | simp [AV.pureB, AV.pureL, pureL_c, pures]) fun hb => ?_
  clear hb
  refine walkG ?_
  refine walkC (hI) ?_
  refine walkG ?_
  refine ⟨by first | exact .inr rfl | exact .inl rfl, ?_⟩; rw [Tryz.results170]; simp only [resOk, resV, go_sem, simprocAttr]
  exact ⟨.c _, .c _, .c _⟩
set_option maxRecDepth 100000 in
set_option maxHeartbeats 800000 in
theorem full_told (s : List UInt8) (hs : s.length ≤ 1000000000) : Told Tryz.prog 89 [.c (.v (.string (str s)))] (.c (.v (.bool (fullM s)))) := by
  obtain ⟨V, hV⟩ : ∃ V, V = fullM s := ⟨_, rfl⟩
  rw [← hV]
  unfold fullM at hV
  refine VC.told ent_89 Tryz.func89 rfl Tryz.ntmps89 (by simp) (by first | rfl | simp [AV.pureB, AV.pureL, pureL_c, pures]) (by first | rfl | simp [AV.pureB, AV.pureL, pureL_c, pures]) fun hb => ?_
  clear hb
  refine walkGF (@str_size) ?_
  refine VC.cond (by rfl) (by trivial) (fun hc => ?_) (fun hc => ?_)
  · have hf : V = false := by
      have : ¬ (s.length ≤ 100) := by simp at hc; omega
      rw [hV]
      simp [this]
    subst hf
    refine walkG ?_
    refine ⟨by first | exact .inr rfl | exact .inl rfl, ?_⟩; rw [Tryz.results89]; simp only [resOk, resV, go_sem, simprocAttr]
    exact .c _
  have hl : s.length ≤ 100 := by simp at hc; omega
  have hv : fullF (s.length + 1) s = V := by rw [hV]; simp [hl]
  clear hV hc
  refine walkG ?_
  refine VC.loop (ι := {l : List UInt8 // l.length ≤ 100 ∧ fullF (l.length + 1) l = V}) (fun q => [(0, .c (.v (.string (str q.1))))]) (fun _ => []) 800 (fun q => q.1.length) ⟨s, hl, hv⟩ ?_ ?_
  · simp only [Weak, eq_self, used_is, sc_any, sc_c, sc_pp, sc_ref, sc_row, sc_agg, sc_fn, ScL, some_imp, List.forall_mem_map, go_sem, Int.reduceBEq, Int.reduceLE, Int.reduceLT, Int.reduceNeg, Nat.reduceAdd, Nat.reduceEqDiff, Nat.reduceLT, Nat.reduceLeDiff, Nat.reduceMul, Nat.reduceSub, reduceCtorEq, ↓reduceIte]
  rintro ⟨l, hl, hv⟩
  simp only []
  rw [fullF] at hv
  have hC := cut_told l (by omega)
  obtain ⟨p, hp⟩ : ∃ p, p = l.takeWhile (· != 46) := ⟨_, rfl⟩
  obtain ⟨D, hD⟩ : ∃ D, D = l.dropWhile (· != 46) := ⟨_, rfl⟩
  have hpl : p.length ≤ l.length := by rw [hp]; exact (List.takeWhile_sublist _).length_le
  have hDl : D.length ≤ l.length := by rw [hD]; exact (List.dropWhile_sublist _).length_le
  rw [← hp, ← hD] at hC hv
  clear hp hD
  have hS := simple1_told p (by omega)
  refine walkG ?_
  refine walkC (hC) ?_
  refine walkG ?_
  refine walkC (hS) ?_
  refine walkG ?_
  refine VC.cond (by rfl) (by trivial) (fun hc => ?_) (fun hc => ?_)
  · have hf : V = false := by
      rw [← hv]
      have : simp1 p = false := by simpa using hc
      simp [this]
    subst hf
    refine walkG ?_
    refine ⟨by first | exact .inr rfl | exact .inl rfl, ?_⟩; rw [Tryz.results89]; simp only [resOk, resV, go_sem, simprocAttr]
    exact .c _
  have hp1 : simp1 p = true := by simpa using hc
  rw [hp1, Bool.true_and] at hv
  refine walkG ?_
  refine VC.cond (by rfl) (by trivial) (fun hc2 => ?_) (fun hc2 => ?_)
  · cases D with
    | cons x r => simp at hc2
    | nil =>
      have hf : V = true := hv.symm
      subst hf
      refine walkG ?_
      refine ⟨by first | exact .inr rfl | exact .inl rfl, ?_⟩; rw [Tryz.results89]; simp only [resOk, resV, go_sem, simprocAttr]
      exact .c _
  · cases D with
    | nil => simp at hc2
    | cons x r =>
      simp only [] at hv
      simp only [List.length_cons] at hDl
      (repeat (first | refine pass ?_ | refine VC.region (by rfl) (by rfl) ?_ | (refine AO.step fun K hK => ?_; simp only [List.tail_cons, go_sem, Int.reduceBEq, Int.reduceLE, Int.reduceLT, Int.reduceNeg, Nat.reduceAdd, Nat.reduceEqDiff, Nat.reduceLT, Nat.reduceLeDiff, Nat.reduceMul, Nat.reduceSub, reduceCtorEq, ↓reduceIte]; (first | refine gsel_skip ?_ | refine gsel_go ?_ | skip); (first | refine hK _ _ _ ?_ | refine ⟨by first | omega | exact ⟨_, rfl, rfl⟩ | exact fun _ => ⟨_, rfl, rfl⟩ | (intro h; simp only [List.tail_cons, h, true_and]; omega) | (clear hK; intro h; simp_all <;> omega), hK _ _ _ ?_⟩); clear hK K) | refine VC.draw mixP (by rfl) (by rfl) ?_ | refine ⟨okd_of (by kernel_rfl), ?_⟩ | refine BQ.other (by decide) ?_ | refine VC.seq ?_ | refine AO.nil ?_ | refine VC.block ?_))
      refine .next ⟨r, by omega, by rw [← hv]; exact fullF_fuel _ _ _ (by omega) (by omega)⟩ ?_ (by simp only []; omega)
      simp only [Weak, eq_self, used_is, sc_any, sc_c, sc_pp, sc_ref, sc_row, sc_agg, sc_fn, ScL, some_imp, List.forall_mem_map, go_sem, Int.reduceBEq, Int.reduceLE, Int.reduceLT, Int.reduceNeg, Nat.reduceAdd, Nat.reduceEqDiff, Nat.reduceLT, Nat.reduceLeDiff, Nat.reduceMul, Nat.reduceSub, reduceCtorEq, ↓reduceIte]
set_option maxRecDepth 100000 in
set_option maxHeartbeats 800000 in
theorem kind_told (s : List UInt8) : Told Tryz.prog 164 [.c (.v (.string (str s)))] (.c (.v (.int .i64 (kindM s : Int)))) := by
  obtain ⟨V, hV⟩ : ∃ V, V = kindM s := ⟨_, rfl⟩
  rw [← hV]
  obtain ⟨L, hL⟩ : ∃ L, L = kwords.map fun l => PV.v (.string (str l)) := ⟨_, rfl⟩
  have hg : glob Tryz.prog 0 = some L := by rw [hL]; kernel_rfl
  have hLl : L.length = 15 := by rw [hL]; rfl
  have hLt : L.take 15 = L := by rw [← hLl, List.take_length]
  refine VC.told ent_164 Tryz.func164 rfl Tryz.ntmps164 (by simp) (by first | rfl | simp [AV.pureB, AV.pureL, pureL_c, pures]) (by first | rfl | simp [AV.pureB, AV.pureL, pureL_c, pures]) fun hb => ?_
  clear hb
  refine walkGF (And.intro hg (And.intro hLl hLt)) ?_
  have hE : (⟨#[]⟩ : ByteArray).toList = [] := str_toList []
  have hkl : kwords.length = 15 := rfl
  refine VC.loop (ι := {i : Nat // i ≤ 15 ∧ ∀ (j : Nat) (w : List UInt8), j < i → kwords[j]? = some w → s ≠ [] → w ≠ s}) (fun q => [(0, .c (.v (.string (str s)))), (5, .agg (L.map .c)), (6, .c (.v (.int .i64 (q.1 : Int))))]) (fun _ => []) 800 (fun q => 15 - q.1) ⟨0, by omega, fun j w h => by omega⟩ ?_ ?_
  · simp only [Weak, eq_self, used_is, sc_any, sc_c, sc_pp, sc_ref, sc_row, sc_agg, sc_fn, ScL, some_imp, List.forall_mem_map, go_sem, Int.reduceBEq, Int.reduceLE, Int.reduceLT, Int.reduceNeg, Nat.reduceAdd, Nat.reduceEqDiff, Nat.reduceLT, Nat.reduceLeDiff, Nat.reduceMul, Nat.reduceSub, reduceCtorEq, ↓reduceIte]
  rintro ⟨i, hi, ht⟩
  simp only []
  refine walkG ?_
  refine VC.cond (by rfl) (by trivial) (fun hc => ?_) (fun hc => ?_)
  · have hlt : i < 15 := by simp at hc; omega
    obtain ⟨w, hx⟩ : ∃ w, kwords[i]? = some w := ⟨kwords[i]'(by omega), List.getElem?_eq_getElem (by omega)⟩
    have hLx : (L.map AV.c)[i]? = some (.c (.v (.string (str w)))) := by rw [hL, List.getElem?_map, List.getElem?_map, hx]; rfl
    have hw : IntKind.i64.wrap ((i : Int) + 1) = (i : Int) + 1 := wrap64_id (by omega) (by omega)
    refine walkGF (And.intro hLx (And.intro @str_toList hE)) ?_
    refine VC.cond (by rfl) (by trivial) (fun hc2 => ?_) (fun hc2 => ?_)
    · have hh : w = s ∧ s ≠ [] := by simpa using hc2
      have hf : V = i := by
        rw [hV, kindM, if_neg hh.2]
        have : kwords.findIdx? (· == s) = some i := by
          rw [List.findIdx?_eq_some_iff_getElem]
          refine ⟨by omega, ?_, fun j hj => ?_⟩
          · have := (List.getElem?_eq_some_iff.1 hx).2
            simp [this, hh.1]
          · have := ht j _ hj (List.getElem?_eq_getElem (by omega)) hh.2
            simpa using this
        rw [this]
      subst hf
      refine walkG ?_
      refine ⟨by first | exact .inr rfl | exact .inl rfl, ?_⟩; rw [Tryz.results164]; simp only [resOk, resV, go_sem, simprocAttr]
      exact .c _
    · have hh : ¬ (w = s ∧ s ≠ []) := by simpa using hc2
      refine walkGF (hw) ?_
      refine .next ⟨i + 1, by omega, ?_⟩ ?_ (by simp only []; omega)
      · intro j u hj hu hs
        by_cases hji : j < i
        · exact ht j u hji hu hs
        · obtain rfl : j = i := by omega
          rw [hx] at hu
          obtain rfl := Option.some.inj hu
          exact fun e => hh ⟨e, hs⟩
      simp only [Weak, eq_self, used_is, sc_any, sc_c, sc_pp, sc_ref, sc_row, sc_agg, sc_fn, ScL, some_imp, List.forall_mem_map, go_sem, Int.reduceBEq, Int.reduceLE, Int.reduceLT, Int.reduceNeg, Nat.reduceAdd, Nat.reduceEqDiff, Nat.reduceLT, Nat.reduceLeDiff, Nat.reduceMul, Nat.reduceSub, reduceCtorEq, ↓reduceIte]
      exact cI (by omega)
  · have hie : i = 15 := by simp at hc; omega
    have hf : V = 0 := by
      rw [hV, kindM]
      split
      · rfl
      · rename_i hs
        have : kwords.findIdx? (· == s) = none := by
          rw [List.findIdx?_eq_none_iff]
          intro w hw
          obtain ⟨j, hj⟩ := List.getElem?_of_mem hw
          have := ht j w (by have := (List.getElem?_eq_some_iff.1 hj).1; omega) hj hs
          simpa using this
        rw [this]
    subst hf
    refine walkG ?_
    refine ⟨by first | exact .inr rfl | exact .inl rfl, ?_⟩; rw [Tryz.results164]; simp only [resOk, resV, go_sem, simprocAttr]
    exact .c _

set_option maxRecDepth 100000 in
set_option maxHeartbeats 400000 in
theorem sindex_told (ks : List (List UInt8)) (key : List UInt8) : Told Tryz.prog 102 [.c (.sl 1 (ks.map sPV)), .c (.v (.string (str key)))] (.c (.v (.int .i64 (idxS key ks)))) := by
  refine VC.told ent_102 Tryz.func102 rfl Tryz.ntmps102 (by simp) rfl rfl fun hb => ?_
  simp only [abd_c, pbd_sl, pbd_v, List.mem_cons, List.not_mem_nil, or_false, forall_eq_or_imp, forall_eq, List.length_map, and_true] at hb
  have h1 := hb.1
  clear hb
  refine walkG ?_
  refine VC.loop (ι := {i : Nat // i ≤ ks.length ∧ ∀ j, j < i → ks[j]? ≠ some key}) (fun i => [(0, .c (.sl 1 (ks.map sPV))), (1, .c (.v (.string (str key)))), (7, .c (.v (.int .i64 ks.length))), (8, .c (.v (.int .i64 i.1)))]) (fun _ => []) 0 (fun i => ks.length - i.1) ⟨0, Nat.zero_le _, by intro j hj; omega⟩ ?_ ?_
  · simp only [Weak, eq_self, used_is, sc_any, sc_c, sc_pp, sc_ref, sc_row, sc_agg, sc_fn, ScL, some_imp, List.forall_mem_map, go_sem, Int.reduceBEq, Int.reduceLE, Int.reduceLT, Int.reduceNeg, Nat.reduceAdd, Nat.reduceEqDiff, Nat.reduceLT, Nat.reduceLeDiff, Nat.reduceMul, Nat.reduceSub, reduceCtorEq, ↓reduceIte]
    all_goals rfl
  rintro ⟨i, hi, ht⟩
  refine walkG ?_
  refine VC.cond (by rfl) (by trivial) (fun hc => ?_) (fun hc => ?_)
  · simp only [decide_eq_true_eq] at hc
    obtain ⟨x, hx⟩ : ∃ x, ks[i]? = some x := ⟨ks[i], List.getElem?_eq_getElem (by omega)⟩
    have hw : IntKind.i64.wrap ((i : Int) + 1) = (i : Int) + 1 := wrap64_id (by omega) (by omega)
    (repeat (first | refine pass ?_ | refine VC.region (by rfl) (by rfl) ?_ | (refine AO.step fun K hK => ?_; simp only [List.getElem?_map, hx, sPV, str_toList, go_sem, Int.reduceBEq, Int.reduceLE, Int.reduceLT, Int.reduceNeg, Nat.reduceAdd, Nat.reduceEqDiff, Nat.reduceLT, Nat.reduceLeDiff, Nat.reduceMul, Nat.reduceSub, reduceCtorEq, ↓reduceIte]; (first | refine gsel_skip ?_ | refine gsel_go ?_ | skip); (first | refine hK _ _ _ ?_ | refine ⟨by first | omega | exact ⟨_, rfl, rfl⟩ | exact fun _ => ⟨_, rfl, rfl⟩ | (intro h; simp only [List.getElem?_map, hx, sPV, str_toList, h, true_and]; omega) | (clear hK; intro h; simp_all <;> omega), hK _ _ _ ?_⟩); clear hK K) | refine VC.draw mixP (by rfl) (by rfl) ?_ | refine ⟨okd_of (by kernel_rfl), ?_⟩ | refine BQ.other (by decide) ?_ | refine VC.seq ?_ | refine AO.nil ?_ | refine VC.block ?_))
    refine VC.cond (by rfl) (by trivial) (fun hc2 => ?_) (fun hc2 => ?_)
    · have hxy : key = x := by simpa using hc2
      subst hxy
      have hr := idxS_at hx ht
      refine walkG ?_
      refine ⟨.inr rfl, ?_⟩
      rw [Tryz.results102, hr]
      simp only [resOk, resV, go_sem, simprocAttr]
      exact .c _
    · have hxy : key ≠ x := by simpa using hc2
      refine walkGF (hw) ?_
      refine .next ⟨i + 1, by omega, fun j hj => ?_⟩ ?_ (by simp only []; omega)
      · rcases Nat.lt_or_ge j i with h | h
        · exact ht j h
        · obtain rfl : j = i := by omega
          rw [hx]
          intro e
          exact hxy (Option.some.inj e).symm
      simp only [Weak, eq_self, used_is, sc_any, sc_c, sc_pp, sc_ref, sc_row, sc_agg, sc_fn, ScL, some_imp, List.forall_mem_map, go_sem, Int.reduceBEq, Int.reduceLE, Int.reduceLT, Int.reduceNeg, Nat.reduceAdd, Nat.reduceEqDiff, Nat.reduceLT, Nat.reduceLeDiff, Nat.reduceMul, Nat.reduceSub, reduceCtorEq, ↓reduceIte]
      exact cI (by omega)
  · simp only [decide_eq_false_iff_not] at hc
    obtain rfl : i = ks.length := by omega
    have hr := idxS_none ht
    refine walkG ?_
    refine ⟨.inr rfl, ?_⟩
    rw [Tryz.results102, hr]
    simp only [resOk, resV, go_sem, simprocAttr]
    exact .c _

theorem named_told (k : Int) : Told Tryz.prog 87 [.c (.v (.int .i64 k))] (.c (.v (.bool (namedK k)))) := by
  obtain ⟨V, hV⟩ : ∃ V, V = namedK k := ⟨_, rfl⟩
  rw [← hV]
  unfold namedK at hV
  replace hV := Lib.hid hV
  refine VC.told ent_87 Tryz.func87 rfl Tryz.ntmps87 (by simp) (by first | rfl | simp [AV.pureB, AV.pureL, pureL_c, pures]) (by first | rfl | simp [AV.pureB, AV.pureL, pureL_c, pures]) fun hb => ?_
  clear hb
  refine walkG ?_
  refine ⟨by first | exact .inr rfl | exact .inl rfl, ?_⟩; rw [Tryz.results87]; simp only [resOk, resV, go_sem, simprocAttr]
  rw [hV.out]
  exact .c _
theorem idxS_ge (key : List UInt8) (ks : List (List UInt8)) : decide (idxS key ks ≥ 0) = ks.contains key := by
  unfold idxS
  cases h : ks.findIdx? (fun k => decide (key = k)) with
  | none =>
    rw [List.findIdx?_eq_none_iff] at h
    have : key ∉ ks := fun hm => by simpa using h key hm
    simp [this]
  | some i =>
    rw [List.findIdx?_eq_some_iff_getElem] at h
    obtain ⟨hi, h1, _⟩ := h
    have : key ∈ ks := by
      have := List.getElem_mem hi
      simp at h1
      rwa [← h1] at this
    simp [this]
set_option maxRecDepth 100000 in
set_option maxHeartbeats 400000 in
theorem contains_told (ks : List (List UInt8)) (key : List UInt8) : Told Tryz.prog 167 [.c (.sl 1 (ks.map sPV)), .c (.v (.string (str key)))] (.c (.v (.bool (ks.contains key)))) := by
  have hI := sindex_told ks key
  have hG := idxS_ge key ks
  generalize idxS key ks = z at hI hG
  rw [← hG]
  clear hG
  refine VC.told ent_167 Tryz.func167 rfl Tryz.ntmps167 (by simp) (by first | rfl | simp [AV.pureB, AV.pureL, pureL_c, pures]) (by first | rfl | simp [AV.pureB, AV.pureL, pureL_c, pures]) fun hb => ?_
  clear hb
  refine walkG ?_
  refine walkC (hI) ?_
  refine walkG ?_
  refine ⟨by first | exact .inr rfl | exact .inl rfl, ?_⟩; rw [Tryz.results167]; simp only [resOk, resV, go_sem, simprocAttr]
  exact .c _
def fnP (g : FuncId) : PV := .v (.func (.func g) ⟨[]⟩ ⟨[]⟩)
theorem diffM_take {rule : List UInt8 → Bool} {l : List (List UInt8)} {i : Nat} {x : List UInt8} (hx : l[i]? = some x) : diffM rule (l.take (i + 1)) = (diffM rule (l.take i) && (rule x && !(l.take i).contains x)) := by
  have ht : l.take (i + 1) = l.take i ++ [x] := by
    rw [List.take_add_one, hx]
    rfl
  rw [ht, Bool.eq_iff_iff]
  simp only [diffM, List.all_append, List.all_cons, List.all_nil, Bool.and_true, Bool.and_eq_true, decide_eq_true_eq, List.nodup_append, Bool.not_eq_true', List.contains_eq_mem, decide_eq_false_iff_not]
  constructor
  · rintro ⟨⟨h1, h2⟩, h3, _, h5⟩
    exact ⟨⟨h1, h3⟩, h2, fun h => h5 x h x (by simp) rfl⟩
  · rintro ⟨⟨h1, h3⟩, h2, h4⟩
    exact ⟨⟨h1, h2⟩, h3, by simp, fun a ha b hb => by
      obtain rfl := List.mem_singleton.1 hb
      rintro rfl
      exact h4 ha⟩
set_option maxRecDepth 100000 in
set_option maxHeartbeats 800000 in
theorem different_told {g : FuncId} {rule : List UInt8 → Bool} (l : List (List UInt8)) (hl : l.length ≤ 1000000000) (hk : ∀ x ∈ l, Told Tryz.prog g [.c (.v (.string (str x)))] (.c (.v (.bool (rule x))))) :
    Told Tryz.prog 88 [.c (.sl 1 (l.map sPV)), .fn (.func g) [] []] (.c (.v (.bool (diffM rule l)))) := by
  obtain ⟨V, hV⟩ : ∃ V, V = diffM rule l := ⟨_, rfl⟩
  rw [← hV]
  refine VC.told ent_88 Tryz.func88 rfl Tryz.ntmps88 (by simp) (by first | rfl | simp [AV.pureB, AV.pureL, pureL_c, pures]) (by first | rfl | simp [AV.pureB, AV.pureL, pureL_c, pures]) fun hb => ?_
  clear hb
  refine walkG ?_
  refine VC.loop (ι := {i : Nat // i ≤ l.length ∧ diffM rule (l.take i) = true}) (fun q => [(0, .c (.sl 1 (l.map sPV))), (1, .fn (.func g) [] []), (7, .c (.sl 1 (l.map sPV))), (8, .c (.v (.int .i64 (l.length : Int)))), (9, .c (.v (.int .i64 (q.1 : Int))))]) (fun _ => []) 800 (fun q => l.length - q.1) ⟨0, Nat.zero_le _, by simp [diffM]⟩ ?_ ?_
  · simp only [Weak, eq_self, used_is, sc_any, sc_c, sc_pp, sc_ref, sc_row, sc_agg, sc_fn, ScL, some_imp, List.forall_mem_map, go_sem, Int.reduceBEq, Int.reduceLE, Int.reduceLT, Int.reduceNeg, Nat.reduceAdd, Nat.reduceEqDiff, Nat.reduceLT, Nat.reduceLeDiff, Nat.reduceMul, Nat.reduceSub, reduceCtorEq, ↓reduceIte]
    try simp
  rintro ⟨i, hi, ht⟩
  simp only []
  refine walkG ?_
  refine VC.cond (by rfl) (by trivial) (fun hc => ?_) (fun hc => ?_)
  · have hlt : i < l.length := by simp at hc; omega
    obtain ⟨x, hx⟩ : ∃ x, l[i]? = some x := ⟨l[i], List.getElem?_eq_getElem hlt⟩
    have hw : IntKind.i64.wrap ((i : Int) + 1) = (i : Int) + 1 := wrap64_id (by omega) (by omega)
    have hxp : (l.map sPV)[i]? = some (sPV x) := by rw [List.getElem?_map, hx]; rfl
    have hT := hk x (List.mem_of_getElem? hx)
    have hC := contains_told (l.take i) x
    have hn := diffM_take (rule := rule) hx
    rw [ht, Bool.true_and] at hn
    have hmt : (l.map sPV).take i = (l.take i).map sPV := by rw [List.map_take]
    refine walkGF (And.intro hxp @sPV_eq) ?_
    refine walkC (hT) ?_
    refine walkGF (hmt) ?_
    refine walkD (hC) ?_
    refine walkG ?_
    refine VC.cond (by rfl) (by trivial) (fun hc2 => ?_) (fun hc2 => ?_)
    · have hf : V = false := by
        cases h : V with
        | false => rfl
        | true =>
          rw [hV] at h
          have hall : diffM rule (l.take (i + 1)) = true := by
            unfold diffM at h ⊢
            simp only [Bool.and_eq_true, List.all_eq_true, decide_eq_true_eq] at h ⊢
            exact ⟨fun y hy => h.1 y (List.mem_of_mem_take hy), h.2.sublist (List.take_sublist _ _)⟩
          rw [hn] at hall
          simp at hall hc2
          simp [hall] at hc2
      subst hf
      refine walkG ?_
      refine ⟨by first | exact .inr rfl | exact .inl rfl, ?_⟩; rw [Tryz.results88]; simp only [resOk, resV, go_sem, simprocAttr]
      exact .c _
    · refine walkGF (hw) ?_
      refine .next ⟨i + 1, by omega, ?_⟩ ?_ (by simp only []; omega)
      · rw [hn]
        simpa using hc2
      simp only [Weak, eq_self, used_is, sc_any, sc_c, sc_pp, sc_ref, sc_row, sc_agg, sc_fn, ScL, some_imp, List.forall_mem_map, go_sem, Int.reduceBEq, Int.reduceLE, Int.reduceLT, Int.reduceNeg, Nat.reduceAdd, Nat.reduceEqDiff, Nat.reduceLT, Nat.reduceLeDiff, Nat.reduceMul, Nat.reduceSub, reduceCtorEq, ↓reduceIte]
      try exact cI (by omega)
  · have hie : i = l.length := by simp at hc; omega
    have hf : V = true := by
      rw [hie, List.take_length] at ht
      rw [hV, ht]
    subst hf
    refine walkG ?_
    refine ⟨by first | exact .inr rfl | exact .inl rfl, ?_⟩; rw [Tryz.results88]; simp only [resOk, resV, go_sem, simprocAttr]
    exact .c _

def bkeys5 : Nat → List (List UInt8) → Option Nat
  | n, [] => some n
  | n, y :: ys => if n ≤ 2500 then (if 2500 < y.length then none else bkeys5 (n + 1 + y.length) ys) else some n
mutual
def tbulk5 (d : Nat) : JT → Nat
  | .mk k n s ks xs => if 60 < d ∨ 2500 < s.length ∨ 2500 < ks.length ∨ 2500 < xs.length then 2501 else match bkeys5 (1 + s.length) ks with | none => 2501 | some n => bitems5 d n xs
def bitems5 (d : Nat) : Nat → List JT → Nat
  | n, [] => n
  | n, x :: xs => if n ≤ 2500 then bitems5 d (n + tbulk5 (d + 1) x) xs else n
end
theorem bkeys5_le : ∀ (ys : List (List UInt8)) (n m : Nat), n ≤ 5001 → bkeys5 n ys = some m → m ≤ 5001
  | [], n, m, h, e => by simp [bkeys5] at e; omega
  | y :: ys, n, m, h, e => by
    rw [bkeys5] at e
    split at e
    · split at e
      · simp at e
      · exact bkeys5_le ys _ m (by omega) e
    · simp at e; omega
mutual
theorem tbulk5_le (d : Nat) : ∀ (t : JT), tbulk5 d t ≤ 5001 + 2501 * (61 - d)
  | .mk k n s ks xs => by
    rw [tbulk5]
    split
    · omega
    · rename_i h
      split
      · omega
      · rename_i m hm
        exact bitems5_le d xs m (by have := bkeys5_le ks _ _ (by omega) hm; omega)
theorem bitems5_le (d : Nat) : ∀ (xs : List JT) (n : Nat), n ≤ 5001 + 2501 * (61 - d) → bitems5 d n xs ≤ 5001 + 2501 * (61 - d)
  | [], n, h => by rw [bitems5]; exact h
  | x :: xs, n, h => by
    rw [bitems5]
    split
    · have := tbulk5_le (d + 1) x
      by_cases hd : 60 < d
      · have h2 : tbulk5 (d + 1) x = 2501 := by
          cases x
          rw [tbulk5, if_pos (by omega)]
        exact bitems5_le d xs _ (by omega)
      · exact bitems5_le d xs _ (by omega)
    · exact h
end
theorem bitems5_ge (d : Nat) : ∀ (xs : List JT) (n : Nat), n ≤ bitems5 d n xs
  | [], n => by rw [bitems5]; exact Nat.le_refl _
  | x :: xs, n => by
    rw [bitems5]
    split
    · exact Nat.le_trans (Nat.le_add_right _ _) (bitems5_ge d xs _)
    · exact Nat.le_refl _
mutual
theorem tbulk5_deep (d : Nat) : ∀ (t : JT), tbulk5 d t ≤ 2500 → tdeep t + d ≤ 61
  | .mk k n s ks xs => fun h => by
    rw [tbulk5] at h
    split at h
    · omega
    · rename_i hd
      split at h
      · omega
      · rw [tdeep]
        split
        · exact bitems5_deep d xs _ 1 (by omega) h
        · omega
theorem bitems5_deep (d : Nat) : ∀ (xs : List JT) (n m : Nat), m + d ≤ 61 → bitems5 d n xs ≤ 2500 → tdeeps m xs + d ≤ 61
  | [], n, m, hm, h => by rw [tdeeps]; exact hm
  | x :: xs, n, m, hm, h => by
    rw [bitems5] at h
    split at h
    · have h1 := bitems5_ge d xs (n + tbulk5 (d + 1) x)
      have h2 := tbulk5_deep (d + 1) x (by omega)
      rw [tdeeps]
      exact bitems5_deep d xs _ _ (by omega) h
    · omega
end
theorem bkeys5_step {ks : List (List UInt8)} {i n : Nat} {y : List UInt8} (hy : ks[i]? = some y) (hn : n ≤ 2500) (hl : y.length ≤ 2500) : bkeys5 n (ks.drop i) = bkeys5 (n + 1 + y.length) (ks.drop (i + 1)) := by
  obtain ⟨hlt, rfl⟩ := List.getElem?_eq_some_iff.1 hy
  rw [List.drop_eq_getElem_cons hlt, bkeys5, if_pos hn, if_neg (by omega)]
theorem bkeys5_none {ks : List (List UInt8)} {i n : Nat} {y : List UInt8} (hy : ks[i]? = some y) (hn : n ≤ 2500) (hl : 2500 < y.length) : bkeys5 n (ks.drop i) = none := by
  obtain ⟨hlt, rfl⟩ := List.getElem?_eq_some_iff.1 hy
  rw [List.drop_eq_getElem_cons hlt, bkeys5, if_pos hn, if_pos hl]
theorem bkeys5_end {ks : List (List UInt8)} {i n : Nat} (h : ¬ (i < ks.length ∧ n ≤ 2500)) : bkeys5 n (ks.drop i) = some n := by
  by_cases hlt : i < ks.length
  · rw [List.drop_eq_getElem_cons hlt, bkeys5, if_neg (by omega)]
  · rw [List.drop_of_length_le (by omega), bkeys5]
theorem bitems5_step {d : Nat} {xs : List JT} {i n : Nat} {x : JT} (hx : xs[i]? = some x) (hn : n ≤ 2500) : bitems5 d n (xs.drop i) = bitems5 d (n + tbulk5 (d + 1) x) (xs.drop (i + 1)) := by
  obtain ⟨hlt, rfl⟩ := List.getElem?_eq_some_iff.1 hx
  rw [List.drop_eq_getElem_cons hlt, bitems5, if_pos hn]
theorem bitems5_end {d : Nat} {xs : List JT} {i n : Nat} (h : ¬ (i < xs.length ∧ n ≤ 2500)) : bitems5 d n (xs.drop i) = n := by
  by_cases hlt : i < xs.length
  · rw [List.drop_eq_getElem_cons hlt, bitems5, if_neg (by omega)]
  · rw [List.drop_of_length_le (by omega), bitems5]
set_option maxRecDepth 100000 in
set_option maxHeartbeats 800000 in
theorem bulk_told5 : ∀ (m : Nat) (t : JT), SizeOf.sizeOf t ≤ m → ∀ (d : Nat) (z : Int), d ≤ 61 → z = (d : Int) → Told Tryz.prog 64 [t.av, .c (.v (.int .i64 2500)), .c (.v (.int .i64 z))] (.c (.v (.int .i64 (tbulk5 d t)))) := by
  intro m
  induction m with
  | zero => intro t ht; cases t; simp at ht
  | succ m ih =>
  intro t ht d z hd hz
  cases t with
  | mk k n s ks xs =>
  have hbl := tbulk5_le d (.mk k n s ks xs)
  have hbi := bitems5_le d xs
  refine VC.told ent_64 Tryz.func64 rfl Tryz.ntmps64 (by simp) rfl rfl fun hb => ?_
  simp only [JT.av, cells_mk, List.map_cons, List.map_nil, abd_agg, abd_c, pbd_v, pbd_sl, List.mem_cons, List.not_mem_nil, or_false, forall_eq_or_imp, forall_eq, true_and, List.length_map] at hb ⊢
  clear hb
  have hw21 : IntKind.i64.wrap (2500 + 1) = 2501 := by rfl
  rw [tbulk5] at hbl ⊢
  refine walkGF (@str_size) ?_
  refine VC.cond (by rfl) (by trivial) (fun hc => ?_) (fun hc => ?_)
  · have hcc : 60 < d ∨ 2500 < s.length ∨ 2500 < ks.length ∨ 2500 < xs.length := by
      simp at hc
      omega
    rw [if_pos hcc]
    refine walkGF (hw21) ?_
    refine ⟨.inr rfl, ?_⟩
    rw [Tryz.results64]
    simp only [resOk, resV, go_sem, simprocAttr]
    exact .c _
  · have hcc : ¬ (60 < d ∨ 2500 < s.length ∨ 2500 < ks.length ∨ 2500 < xs.length) := by
      simp at hc
      omega
    rw [if_neg hcc] at hbl ⊢
    clear hc
    obtain ⟨V, hV⟩ : ∃ V, V = bkeys5 (1 + s.length) ks := ⟨_, rfl⟩
    rw [← hV] at hbl ⊢
    have hw1 : IntKind.i64.wrap (1 + (s.length : Int)) = 1 + (s.length : Int) := wrap64_id (by omega) (by omega)
    refine walkGF (And.intro @cells_mk (And.intro @str_size hw1)) ?_
    refine VC.loop (ι := {p : Nat × Nat // p.1 ≤ ks.length ∧ p.2 ≤ 5001 ∧ bkeys5 p.2 (ks.drop p.1) = V}) (fun p => [(1, .c (.v (.int .i64 2500))), (2, .c (.v (.int .i64 z))), (3, .ref 0 1 0 0), (7, .c (.v (.int .i64 p.1.2))), (8, .c (.v (.int .i64 p.1.1)))])
      (fun _ => [(0, ⟨false, 36, 5, [(JT.mk k n s ks xs).cells.map .c]⟩)]) 8 (fun p => ks.length - p.1.1) ⟨(0, 1 + s.length), Nat.zero_le _, by simp only []; omega, by simpa using hV.symm⟩ ?_ ?_
    · simp only [cells_mk, Weak, eq_self, used_is, sc_any, sc_c, sc_pp, sc_ref, sc_row, sc_agg, sc_fn, ScL, some_imp, List.forall_mem_map, go_sem, Int.reduceBEq, Int.reduceLE, Int.reduceLT, Int.reduceNeg, Nat.reduceAdd, Nat.reduceEqDiff, Nat.reduceLT, Nat.reduceLeDiff, Nat.reduceMul, Nat.reduceSub, reduceCtorEq, ↓reduceIte]
      all_goals first | rfl | exact cI (by omega)
    rintro ⟨⟨i, b⟩, hi, hb, hbk⟩
    simp only [] at hi hb hbk ⊢
    refine walkGF (@cells_mk) ?_
    refine VC.cond (by rfl) (by trivial) (fun hc => ?_) (fun hc => ?_)
    · have hcc : i < ks.length ∧ b ≤ 2500 := by
        simp at hc
        omega
      clear hc
      obtain ⟨y, hy⟩ : ∃ y, ks[i]? = some y := ⟨ks[i], List.getElem?_eq_getElem hcc.1⟩
      (repeat (first | refine pass ?_ | refine VC.region (by rfl) (by rfl) ?_ | (refine AO.step fun K hK => ?_; simp only [cells_mk, List.getElem?_map, hy, sPV, str_size, go_sem, Int.reduceBEq, Int.reduceLE, Int.reduceLT, Int.reduceNeg, Nat.reduceAdd, Nat.reduceEqDiff, Nat.reduceLT, Nat.reduceLeDiff, Nat.reduceMul, Nat.reduceSub, reduceCtorEq, ↓reduceIte]; (first | refine gsel_skip ?_ | refine gsel_go ?_ | skip); (first | refine hK _ _ _ ?_ | refine ⟨by first | omega | exact ⟨_, rfl, rfl⟩ | exact fun _ => ⟨_, rfl, rfl⟩ | (intro h; simp only [cells_mk, List.getElem?_map, hy, sPV, str_size, h, true_and]; omega) | (clear hK; intro h; simp_all <;> omega), hK _ _ _ ?_⟩); clear hK K) | refine VC.draw mixP (by rfl) (by rfl) ?_ | refine ⟨okd_of (by kernel_rfl), ?_⟩ | refine BQ.other (by decide) ?_ | refine VC.seq ?_ | refine AO.nil ?_ | refine VC.block ?_))
      refine VC.cond (by rfl) (by trivial) (fun hc => ?_) (fun hc => ?_)
      · have hl : 2500 < y.length := by
          simp at hc
          omega
        obtain rfl : V = none := hbk.symm.trans (bkeys5_none hy hcc.2 hl)
        refine walkGF (hw21) ?_
        refine ⟨.inr rfl, ?_⟩
        rw [Tryz.results64]
        simp only [resOk, resV, go_sem, simprocAttr]
        exact .c _
      · have hl : y.length ≤ 2500 := by
          simp at hc
          omega
        have hw2 : IntKind.i64.wrap ((b : Int) + 1) = (b : Int) + 1 := wrap64_id (by omega) (by omega)
        have hw3 : IntKind.i64.wrap ((b : Int) + 1 + (y.length : Int)) = (b : Int) + 1 + (y.length : Int) := wrap64_id (by omega) (by omega)
        have hw4 : IntKind.i64.wrap ((i : Int) + 1) = (i : Int) + 1 := wrap64_id (by omega) (by omega)
        (repeat (first | refine pass ?_ | refine VC.region (by rfl) (by rfl) ?_ | (refine AO.step fun K hK => ?_; simp only [cells_mk, List.getElem?_map, hy, sPV, str_size, hw2, hw3, hw4, go_sem, Int.reduceBEq, Int.reduceLE, Int.reduceLT, Int.reduceNeg, Nat.reduceAdd, Nat.reduceEqDiff, Nat.reduceLT, Nat.reduceLeDiff, Nat.reduceMul, Nat.reduceSub, reduceCtorEq, ↓reduceIte]; (first | refine gsel_skip ?_ | refine gsel_go ?_ | skip); (first | refine hK _ _ _ ?_ | refine ⟨by first | omega | exact ⟨_, rfl, rfl⟩ | exact fun _ => ⟨_, rfl, rfl⟩ | (intro h; simp only [cells_mk, List.getElem?_map, hy, sPV, str_size, hw2, hw3, hw4, h, true_and]; omega) | (clear hK; intro h; simp_all <;> omega), hK _ _ _ ?_⟩); clear hK K) | refine VC.draw mixP (by rfl) (by rfl) ?_ | refine ⟨okd_of (by kernel_rfl), ?_⟩ | refine BQ.other (by decide) ?_ | refine VC.seq ?_ | refine AO.nil ?_ | refine VC.block ?_))
        refine .next ⟨(i + 1, b + 1 + y.length), by simp only []; omega, by simp only []; omega, by simp only []; rw [← hbk, bkeys5_step hy hcc.2 hl]⟩ ?_ (by simp only []; omega)
        simp only [cells_mk, Weak, eq_self, used_is, sc_any, sc_c, sc_pp, sc_ref, sc_row, sc_agg, sc_fn, ScL, some_imp, List.forall_mem_map, go_sem, Int.reduceBEq, Int.reduceLE, Int.reduceLT, Int.reduceNeg, Nat.reduceAdd, Nat.reduceEqDiff, Nat.reduceLT, Nat.reduceLeDiff, Nat.reduceMul, Nat.reduceSub, reduceCtorEq, ↓reduceIte]
        exact ⟨cI (by omega), cI (by omega)⟩
    · have hcc : ¬ (i < ks.length ∧ b ≤ 2500) := by
        simp at hc
        omega
      clear hc
      obtain rfl : V = some b := hbk.symm.trans (bkeys5_end hcc)
      simp only [] at hbl ⊢
      obtain ⟨V, hV2⟩ : ∃ V, V = bitems5 d b xs := ⟨_, rfl⟩
      rw [← hV2] at hbl ⊢
      refine walkG ?_
      refine VC.loop (ι := {p : Nat × Nat // p.1 ≤ xs.length ∧ p.2 ≤ 5001 + 2501 * (61 - d) ∧ bitems5 d p.2 (xs.drop p.1) = V}) (fun p => [(1, .c (.v (.int .i64 2500))), (2, .c (.v (.int .i64 z))), (3, .ref 0 1 0 0), (7, .c (.v (.int .i64 p.1.2))), (9, .c (.v (.int .i64 p.1.1)))])
        (fun _ => [(0, ⟨false, 36, 5, [(JT.mk k n s ks xs).cells.map .c]⟩)]) 8 (fun p => xs.length - p.1.1) ⟨(0, b), Nat.zero_le _, by simp only []; omega, by simpa using hV2.symm⟩ ?_ ?_
      · simp only [cells_mk, Weak, eq_self, used_is, sc_any, sc_c, sc_pp, sc_ref, sc_row, sc_agg, sc_fn, ScL, some_imp, List.forall_mem_map, go_sem, Int.reduceBEq, Int.reduceLE, Int.reduceLT, Int.reduceNeg, Nat.reduceAdd, Nat.reduceEqDiff, Nat.reduceLT, Nat.reduceLeDiff, Nat.reduceMul, Nat.reduceSub, reduceCtorEq, ↓reduceIte]
        all_goals rfl
      clear hi hcc hbk
      rintro ⟨⟨i, c⟩, hi, hcb, hbt⟩
      simp only [] at hi hcb hbt ⊢
      refine walkGF (@cells_mk) ?_
      refine VC.cond (by rfl) (by trivial) (fun hc => ?_) (fun hc => ?_)
      · have hcc : i < xs.length ∧ c ≤ 2500 := by
          simp at hc
          omega
        clear hc
        obtain ⟨x, hx⟩ : ∃ x, xs[i]? = some x := ⟨xs[i], List.getElem?_eq_getElem hcc.1⟩
        have hxm := List.mem_of_getElem? hx
        have hsz : SizeOf.sizeOf x ≤ m := by
          have h1 := List.sizeOf_lt_of_mem hxm
          simp at ht
          omega
        have hcall := ih x hsz (d + 1) (z + 1) (by omega) (by omega)
        have hxb := tbulk5_le (d + 1) x
        have hw1 : IntKind.i64.wrap (z + 1) = z + 1 := wrap64_id (by omega) (by omega)
        have hw2 : IntKind.i64.wrap ((c : Int) + (tbulk5 (d + 1) x : Int)) = (c : Int) + (tbulk5 (d + 1) x : Int) := wrap64_id (by omega) (by omega)
        have hw4 : IntKind.i64.wrap ((i : Int) + 1) = (i : Int) + 1 := wrap64_id (by omega) (by omega)
        (repeat (first | refine pass ?_ | refine VC.region (by rfl) (by rfl) ?_ | (refine AO.step fun K hK => ?_; simp only [cells_mk, List.getElem?_map, hx, len_cells, take_cells, take_cellsC, hw1, go_sem, Int.reduceBEq, Int.reduceLE, Int.reduceLT, Int.reduceNeg, Nat.reduceAdd, Nat.reduceEqDiff, Nat.reduceLT, Nat.reduceLeDiff, Nat.reduceMul, Nat.reduceSub, reduceCtorEq, ↓reduceIte]; (first | refine gsel_skip ?_ | refine gsel_go ?_ | skip); (first | refine hK _ _ _ ?_ | refine ⟨by first | omega | exact ⟨_, rfl, rfl⟩ | exact fun _ => ⟨_, rfl, rfl⟩ | (intro h; simp only [cells_mk, List.getElem?_map, hx, len_cells, take_cells, take_cellsC, hw1, h, true_and]; omega) | (clear hK; intro h; simp_all <;> omega), hK _ _ _ ?_⟩); clear hK K) | refine VC.draw mixP (by rfl) (by rfl) ?_ | refine ⟨okd_of (by kernel_rfl), ?_⟩ | refine BQ.other (by decide) ?_ | refine VC.seq ?_ | refine AO.nil ?_ | refine VC.block ?_))
        (refine AO.step fun K hK => ?_; simp only [go_sem, Int.reduceBEq, Int.reduceLE, Int.reduceLT, Int.reduceNeg, Nat.reduceAdd, Nat.reduceEqDiff, Nat.reduceLT, Nat.reduceLeDiff, Nat.reduceMul, Nat.reduceSub, reduceCtorEq, ↓reduceIte, pureL_c]; (first | refine gsel_go ?_ | skip))
        refine .inl ⟨_, hcall, hK _ _ _ ?_⟩
        clear hK K
        refine walkGF (And.intro hw2 hw4) ?_
        refine .next ⟨(i + 1, c + tbulk5 (d + 1) x), by simp only []; omega, by simp only []; omega, by simp only []; rw [← hbt, bitems5_step hx hcc.2]⟩ ?_ (by simp only []; omega)
        simp only [cells_mk, Weak, eq_self, used_is, sc_any, sc_c, sc_pp, sc_ref, sc_row, sc_agg, sc_fn, ScL, some_imp, List.forall_mem_map, go_sem, Int.reduceBEq, Int.reduceLE, Int.reduceLT, Int.reduceNeg, Nat.reduceAdd, Nat.reduceEqDiff, Nat.reduceLT, Nat.reduceLeDiff, Nat.reduceMul, Nat.reduceSub, reduceCtorEq, ↓reduceIte]
        exact ⟨cI (by omega), cI (by omega)⟩
      · have hcc : ¬ (i < xs.length ∧ c ≤ 2500) := by
          simp at hc
          omega
        obtain rfl : V = c := hbt.symm.trans (bitems5_end hcc)
        refine walkG ?_
        refine ⟨.inr rfl, ?_⟩
        rw [Tryz.results64]
        simp only [resOk, resV, go_sem, simprocAttr]
        exact .c _
/-! A tree that is not great is small. -/
theorem bkeys5_len : ∀ (ys : List (List UInt8)) (n m : Nat), bkeys5 n ys = some m → m ≤ 2500 → n + ys.length ≤ m ∧ ∀ y ∈ ys, y.length ≤ 2500
  | [], n, m, h, hm => by rw [bkeys5] at h; obtain rfl := Option.some.inj h; exact ⟨by simp, by simp⟩
  | y :: ys, n, m, h, hm => by
    rw [bkeys5] at h
    split at h
    · split at h
      · simp at h
      · obtain ⟨h1, h2⟩ := bkeys5_len ys _ m h hm
        refine ⟨by simp; omega, fun z hz => ?_⟩
        rcases List.mem_cons.1 hz with rfl | hz
        · omega
        · exact h2 z hz
    · obtain rfl := Option.some.inj h
      omega
mutual
theorem bulk_sm5 (d : Nat) : ∀ t : JT, tbulk5 d t ≤ 2500 → t.sm 2500
  | .mk k n s ks xs => fun h => by
    rw [tbulk5] at h
    split at h
    · omega
    · rename_i h1
      split at h
      · omega
      · rename_i m hm
        have h2 := bitems5_ge d xs m
        obtain ⟨_, h3⟩ := bkeys5_len ks _ m hm (by omega)
        exact ⟨by omega, by omega, h3, by omega, bitems5_sm d m xs h⟩
theorem bitems5_sm (d n : Nat) : ∀ xs : List JT, bitems5 d n xs ≤ 2500 → JT.smL 2500 xs
  | [] => fun _ => trivial
  | x :: xs => fun h => by
    rw [bitems5] at h
    split at h
    · have := bitems5_ge d xs (n + tbulk5 (d + 1) x)
      exact ⟨bulk_sm5 (d + 1) x (by omega), bitems5_sm d _ xs h⟩
    · omega
end

def textsL : Nat → List (List UInt8) → Nat
  | n, [] => n
  | n, y :: ys => if n ≤ 2500 then (if 2500 < y.length then 2501 else textsL (n + y.length) ys) else n
def textsB (l : List (List UInt8)) : Nat := if 2500 < l.length then 2501 else textsL l.length l
def fieldsB : Nat → List FT → Option Nat
  | n, [] => some n
  | n, f :: fs => if n ≤ 2500 then (if 2500 < f.name.length then none else fieldsB (n + f.name.length + textsB f.aliases + tbulk5 0 f.dflt) fs) else some n
def nodesB : Nat → List NT → Nat
  | n, [] => n
  | n, x :: xs => if n ≤ 2500 then (if 2500 < x.name.length ∨ 2500 < x.fields.length ∨ 2500 < x.branches.length ∨ 2500 < x.dflt.length then 2501 else
      match fieldsB (n + x.name.length + x.fields.length + x.branches.length + x.dflt.length + textsB x.aliases + textsB x.symbols) x.fields with | none => 2501 | some m => nodesB m xs) else n
def sbulk (s : ST) : Nat := if 2500 < s.nodes.length then 2501 else nodesB s.nodes.length s.nodes
def FT.sm (N : Nat) (f : FT) : Prop := f.name.length ≤ N ∧ f.aliases.length ≤ N ∧ (∀ y ∈ f.aliases, y.length ≤ N) ∧ f.dflt.sm N
def NT.sm (N : Nat) (n : NT) : Prop := n.name.length ≤ N ∧ n.dflt.length ≤ N ∧ (n.aliases.length ≤ N ∧ ∀ y ∈ n.aliases, y.length ≤ N) ∧ (n.symbols.length ≤ N ∧ ∀ y ∈ n.symbols, y.length ≤ N) ∧ n.branches.length ≤ N ∧ (n.fields.length ≤ N ∧ ∀ f ∈ n.fields, f.sm N)
def ST.sm (N : Nat) (s : ST) : Prop := s.nodes.length ≤ N ∧ ∀ n ∈ s.nodes, n.sm N
theorem textsL_le : ∀ (l : List (List UInt8)) (n : Nat), n ≤ 5000 → textsL n l ≤ 5000
  | [], n, h => h
  | y :: ys, n, h => by
    rw [textsL]
    split
    · split
      · omega
      · exact textsL_le ys _ (by omega)
    · exact h
theorem textsL_ge : ∀ (l : List (List UInt8)) (n : Nat), n ≤ 2500 ∨ True → textsL n l ≤ 2500 → n ≤ textsL n l ∧ ∀ y ∈ l, y.length ≤ 2500
  | [], n, _, _ => ⟨Nat.le_refl _, by simp⟩
  | y :: ys, n, _, h => by
    rw [textsL] at h ⊢
    split at h
    · rename_i h1
      rw [if_pos h1]
      split at h
      · omega
      · rename_i h2
        rw [if_neg h2]
        obtain ⟨h3, h4⟩ := textsL_ge ys _ (.inr trivial) h
        refine ⟨by omega, fun z hz => ?_⟩
        rcases List.mem_cons.1 hz with rfl | hz
        · omega
        · exact h4 z hz
    · omega
theorem textsB_le (l : List (List UInt8)) : textsB l ≤ 5000 := by
  unfold textsB
  split
  · omega
  · exact textsL_le l _ (by omega)
theorem textsB_sm {l : List (List UInt8)} (h : textsB l ≤ 2500) : l.length ≤ 2500 ∧ ∀ y ∈ l, y.length ≤ 2500 := by
  unfold textsB at h
  split at h
  · omega
  · rename_i h1
    exact ⟨by omega, (textsL_ge l _ (.inr trivial) h).2⟩
theorem tbulk5_top (t : JT) : tbulk5 0 t ≤ 200000 := by
  have := tbulk5_le 0 t
  omega
theorem fieldsB_le : ∀ (l : List FT) (n m : Nat), n ≤ 300000 → fieldsB n l = some m → m ≤ 300000
  | [], n, m, h, e => by rw [fieldsB] at e; obtain rfl := Option.some.inj e; exact h
  | f :: fs, n, m, h, e => by
    rw [fieldsB] at e
    have h1 := textsB_le f.aliases
    have h2 := tbulk5_top f.dflt
    split at e
    · split at e
      · simp at e
      · exact fieldsB_le fs _ m (by omega) e
    · obtain rfl := Option.some.inj e; exact h
theorem fieldsB_sm : ∀ (l : List FT) (n m : Nat), fieldsB n l = some m → m ≤ 2500 → n ≤ m ∧ ∀ f ∈ l, f.sm 2500
  | [], n, m, e, h => by rw [fieldsB] at e; obtain rfl := Option.some.inj e; exact ⟨Nat.le_refl _, by simp⟩
  | f :: fs, n, m, e, h => by
    rw [fieldsB] at e
    split at e
    · split at e
      · simp at e
      · rename_i h1 h2
        obtain ⟨h3, h4⟩ := fieldsB_sm fs _ m e h
        refine ⟨by omega, fun g hg => ?_⟩
        rcases List.mem_cons.1 hg with rfl | hg
        · obtain ⟨h5, h6⟩ := textsB_sm (l := g.aliases) (by omega)
          exact ⟨by omega, h5, h6, bulk_sm5 0 _ (by omega)⟩
        · exact h4 g hg
    · obtain rfl := Option.some.inj e
      omega
theorem nodesB_sm : ∀ (l : List NT) (n : Nat), nodesB n l ≤ 2500 → n ≤ nodesB n l ∧ ∀ x ∈ l, x.sm 2500
  | [], n, h => ⟨Nat.le_refl _, by simp⟩
  | x :: xs, n, h => by
    rw [nodesB] at h ⊢
    split at h
    · rename_i h1
      rw [if_pos h1]
      split at h
      · omega
      · rename_i h2
        rw [if_neg h2]
        split at h
        · omega
        · rename_i m hm
          obtain ⟨h3, h4⟩ := nodesB_sm xs m h
          obtain ⟨h5, h6⟩ := fieldsB_sm _ _ m hm (by omega)
          refine ⟨by omega, fun y hy => ?_⟩
          rcases List.mem_cons.1 hy with rfl | hy
          · exact ⟨by omega, by omega, textsB_sm (by omega), textsB_sm (by omega), by omega, by omega, h6⟩
          · exact h4 y hy
    · omega
theorem sbulk_sm {s : ST} (h : sbulk s ≤ 2500) : s.sm 2500 := by
  unfold sbulk at h
  split at h
  · omega
  · exact ⟨by omega, (nodesB_sm _ _ h).2⟩

theorem tyFn : tyA Tryz.prog 137 = some ⟨false, 1, 8, [.nilFunc], 0, [], 0, []⟩ := by kernel_rfl
set_option maxRecDepth 100000 in
set_option maxHeartbeats 400000 in
theorem all1_told {g : FuncId} {x : List UInt8} {b : Bool} (h : Told Tryz.prog g [.c (.v (.string (str x)))] (.c (.v (.bool b)))) : Told Tryz.prog 221 [.c (.v (.string (str x))), .pp [fnP g]] (.c (.v (.bool (!b)))) := by
  unfold fnP
  refine VC.told ent_221 Tryz.func221 rfl Tryz.ntmps221 (by simp) (by first | rfl | simp [AV.pureB, AV.pureL, pureL_c, pures]) (by first | rfl | simp [AV.pureB, AV.pureL, pureL_c, pures]) fun hb => ?_
  clear hb
  refine walkGF (tyFn) ?_
  (refine AO.step fun K hK => ?_; simp only [go_sem, Int.reduceBEq, Int.reduceLE, Int.reduceLT, Int.reduceNeg, Nat.reduceAdd, Nat.reduceEqDiff, Nat.reduceLT, Nat.reduceLeDiff, Nat.reduceMul, Nat.reduceSub, reduceCtorEq, ↓reduceIte, tyFn]; (first | refine gsel_go ?_ | skip))
  refine ⟨_, h, hK _ _ _ ?_⟩
  clear hK K
  refine walkG ?_
  refine ⟨by first | exact .inr rfl | exact .inl rfl, ?_⟩; rw [Tryz.results221]; simp only [resOk, resV, go_sem, simprocAttr]
  exact .c _
set_option maxRecDepth 100000 in
set_option maxHeartbeats 800000 in
theorem all_told {g : FuncId} {rule : List UInt8 → Bool} (l : List (List UInt8)) (hk : ∀ x ∈ l, Told Tryz.prog g [.c (.v (.string (str x)))] (.c (.v (.bool (rule x))))) :
    Told Tryz.prog 165 [.c (.sl 1 (l.map sPV)), .fn (.func g) [] []] (.c (.v (.bool (allM rule l)))) := by
  obtain ⟨V, hV⟩ : ∃ V, V = allM rule l := ⟨_, rfl⟩
  rw [← hV]
  have hF := cnfS_told (g := 221) (fs := []) (cs := [.pp [fnP g]]) rfl rfl l (fun x => !rule x) fun x hx => all1_told (hk x hx)
  have hv : V = (decide ((l.length : Int) ≤ 40) && !(l.any fun x => !rule x)) := by
    rw [hV, allM]
    congr 1
    · simp
      omega
    · rw [Bool.eq_iff_iff]
      simp
  clear hV
  replace hv := Lib.hid hv
  refine VC.told ent_165 Tryz.func165 rfl Tryz.ntmps165 (by simp) (by first | rfl | simp [AV.pureB, AV.pureL, pureL_c, pures]) (by first | rfl | simp [AV.pureB, AV.pureL, pureL_c, pures]) fun hb => ?_
  clear hb
  refine VC.frz [] [(0, .c (.sl 1 (l.map sPV))), (1, .c (fnP g))] [] 0 ?_ ?_
  · simp only [WeakF, used_is, sc_any, sc_c, sc_pp, sc_ref, sc_row, sc_agg, sc_fn, ScL, some_imp, List.forall_mem_map, go_sem, Int.reduceBEq, Int.reduceLE, Int.reduceLT, Int.reduceNeg, Nat.reduceAdd, Nat.reduceEqDiff, Nat.reduceLT, Nat.reduceLeDiff, Nat.reduceMul, Nat.reduceSub, reduceCtorEq, ↓reduceIte]
    exact ⟨.same _, .fnV⟩
  (refine VC.seq ?_; (first | refine VC.region (by rfl) (by rfl) ?_ | refine VC.draw mixP (by rfl) (by rfl) ?_); (repeat (refine AO.step fun K hK => ?_; simp only [go_sem, Int.reduceBEq, Int.reduceLE, Int.reduceLT, Int.reduceNeg, Nat.reduceAdd, Nat.reduceEqDiff, Nat.reduceLT, Nat.reduceLeDiff, Nat.reduceMul, Nat.reduceSub, reduceCtorEq, ↓reduceIte]; (first | refine gsel_skip ?_ | refine gsel_go ?_ | skip); (first | refine hK _ _ _ ?_ | refine ⟨by first | omega | exact ⟨_, rfl, rfl⟩ | exact fun _ => ⟨_, rfl, rfl⟩ | (intro h; simp only [h, true_and]; omega) | (clear hK; intro h; simp_all <;> omega), hK _ _ _ ?_⟩); clear hK K)); refine AO.nil ?_; first | refine SQ.normal ?_ | refine ⟨okd_of (by kernel_rfl), SQ.normal ?_⟩)
  refine VC.frz [0] [(0, .c (.sl 1 (l.map sPV))), (3, .pp [fnP g])] [] 400 ?_ ?_
  · simp only [WeakF, used_is, sc_any, sc_c, sc_pp, sc_ref, sc_row, sc_agg, sc_fn, ScL, some_imp, List.forall_mem_map, go_sem, Int.reduceBEq, Int.reduceLE, Int.reduceLT, Int.reduceNeg, Nat.reduceAdd, Nat.reduceEqDiff, Nat.reduceLT, Nat.reduceLeDiff, Nat.reduceMul, Nat.reduceSub, reduceCtorEq, ↓reduceIte]
    exact ⟨.same _, .ref (es := [fnP g]) (by simp) rfl rfl rfl rfl⟩
  refine walkG ?_
  refine walkD (hF) ?_
  refine walkG ?_
  refine ⟨by first | exact .inr rfl | exact .inl rfl, ?_⟩; rw [Tryz.results165]; simp only [resOk, resV, go_sem, simprocAttr]
  rw [hv.out]
  exact .c _
set_option maxRecDepth 100000 in
set_option maxHeartbeats 800000 in
theorem kids_told (n : NT) (hn : n.sm 1000000) : Told Tryz.prog 49 [n.av] (.c (.sl 1 ((kidsN n).map iPV))) := by
  obtain ⟨L, hL⟩ : ∃ L, L = kidsN n := ⟨_, rfl⟩
  rw [← hL]
  unfold kidsN at hL
  have hfl := hn.2.2.2.2.2.1
  have hbl := hn.2.2.2.2.1
  rw [NT.av_eq, ncells_mk]
  refine VC.told ent_49 Tryz.func49 rfl Tryz.ntmps49 (by simp) (by first | rfl | simp [AV.pureB, AV.pureL, pureL_c, pures]) (by first | rfl | simp [AV.pureB, AV.pureL, pureL_c, pures]) fun hb => ?_
  clear hb
  by_cases h9 : n.kind = 9
  · rw [if_pos h9] at hL
    subst hL
    rw [h9]
    refine walkB ?_
    refine VC.nil 3 3 1 (by rfl) (by trivial) (by rfl) ?_
    refine VC.loop (ι := {i : Nat // i ≤ n.fields.length}) (fun q => [(3, .row 88 q.1), (11, .c (.sl 9 (n.fields.map FT.cells))), (12, .c (.v (.int .i64 (n.fields.length : Int)))), (13, .c (.v (.int .i64 (q.1 : Int))))])
      (fun q => [(88, ⟨true, 3, 1, rA iPV ((n.fields.map (·.type)).take q.1)⟩)]) 800 (fun q => n.fields.length - q.1) ⟨0, Nat.zero_le _⟩ ?_ ?_
    · simp only [rA_len, rA_sc, rA_nil, Weak, eq_self, used_is, sc_any, sc_c, sc_pp, sc_ref, sc_row, sc_agg, sc_fn, ScL, some_imp, List.forall_mem_map, go_sem, Int.reduceBEq, Int.reduceLE, Int.reduceLT, Int.reduceNeg, Nat.reduceAdd, Nat.reduceEqDiff, Nat.reduceLT, Nat.reduceLeDiff, Nat.reduceMul, Nat.reduceSub, reduceCtorEq, ↓reduceIte]
      try simp
    rintro ⟨i, hi⟩
    simp only []
    refine walkG ?_
    refine VC.cond (by rfl) (by trivial) (fun hc => ?_) (fun hc => ?_)
    · have hlt : i < n.fields.length := by simp at hc; omega
      obtain ⟨f, hx⟩ : ∃ f, n.fields[i]? = some f := ⟨n.fields[i], List.getElem?_eq_getElem hlt⟩
      have hw : IntKind.i64.wrap ((i : Int) + 1) = (i : Int) + 1 := wrap64_id (by omega) (by omega)
      have hxp : (n.fields.map FT.cells)[i]? = some f.cells := by rw [List.getElem?_map, hx]; rfl
      have hl : (rA iPV ((n.fields.map (·.type)).take i)).length = i := by rw [rA_len]; simp; omega
      have hr : rA iPV ((n.fields.map (·.type)).take i) ++ [[.c (.v (.int .i64 f.type))]] = rA iPV ((n.fields.map (·.type)).take (i + 1)) := by
        rw [List.take_add_one, List.getElem?_map, hx]
        exact rA_one iPV _ f.type
      have hl2 : (rA iPV ((n.fields.map (·.type)).take (i + 1))).length = i + 1 := by rw [rA_len]; simp; omega
      refine walkGF (And.intro hxp (And.intro @fcells_mk (And.intro @len_cells (And.intro @take_cells (And.intro @take_cellsC (And.intro hl (And.intro hr hw))))))) ?_
      refine .next ⟨i + 1, by omega⟩ ?_ (by simp only []; omega)
      simp only [hl2, rA_sc, Weak, eq_self, used_is, sc_any, sc_c, sc_pp, sc_ref, sc_row, sc_agg, sc_fn, ScL, some_imp, List.forall_mem_map, go_sem, Int.reduceBEq, Int.reduceLE, Int.reduceLT, Int.reduceNeg, Nat.reduceAdd, Nat.reduceEqDiff, Nat.reduceLT, Nat.reduceLeDiff, Nat.reduceMul, Nat.reduceSub, reduceCtorEq, ↓reduceIte]
      exact ⟨cI (by omega), Nat.le_refl _⟩
    · have hie : i = n.fields.length := by simp at hc; omega
      have htk : (n.fields.map (·.type)).take i = n.fields.map (·.type) := List.take_of_length_le (by simp; omega)
      rw [htk]
      refine walkGF (hie) ?_
      refine ⟨by first | exact .inr rfl | exact .inl rfl, ?_⟩; rw [Tryz.results49]; simp only [resOk, resV, go_sem, simprocAttr]
      apply frz_rA (f := iPV) (l := n.fields.map (·.type)) (T := 3)
      · rfl
      · simp [hie]
      · rfl
      · simp [iPV]
  by_cases h11 : n.kind = 11
  · rw [if_neg h9, if_pos (.inl h11)] at hL
    subst hL
    rw [h11]
    refine walkB ?_
    refine ⟨by first | exact .inr rfl | exact .inl rfl, ?_⟩; rw [Tryz.results49]; simp only [resOk, resV, go_sem, simprocAttr]
    exact frz_rA (f := iPV) (l := [n.items]) rfl rfl rfl (by simp [iPV])
  by_cases h12 : n.kind = 12
  · rw [if_neg h9, if_pos (.inr h12)] at hL
    subst hL
    rw [h12]
    refine walkB ?_
    refine ⟨by first | exact .inr rfl | exact .inl rfl, ?_⟩; rw [Tryz.results49]; simp only [resOk, resV, go_sem, simprocAttr]
    exact frz_rA (f := iPV) (l := [n.items]) rfl rfl rfl (by simp [iPV])
  by_cases h13 : n.kind = 13
  · rw [if_neg h9, if_neg (by simp [h11, h12]), if_pos h13] at hL
    subst hL
    rw [h13]
    refine walkB ?_
    refine ⟨by first | exact .inr rfl | exact .inl rfl, ?_⟩; rw [Tryz.results49]; simp only [resOk, resV, go_sem, simprocAttr]
    refine frz_rA (f := iPV) (l := n.branches) (T := 3) ?_ ?_ rfl (by simp [iPV])
    · simp [upd_at, rA_pv]
    · simp
  · rw [if_neg h9, if_neg (by simp [h11, h12]), if_neg h13] at hL
    subst hL
    have e9 : (n.kind == 9) = false := by simpa using h9
    have e11 : (n.kind == 11) = false := by simpa using h11
    have e12 : (n.kind == 12) = false := by simpa using h12
    have e13 : (n.kind == 13) = false := by simpa using h13
    refine walkBF (And.intro e9 (And.intro e11 (And.intro e12 e13))) ?_
    refine ⟨by first | exact .inr rfl | exact .inl rfl, ?_⟩; rw [Tryz.results49]; simp only [resOk, resV, go_sem, simprocAttr]
    exact .nil _

theorem bareM_eq (n : NT) : bareM n = (!(if namedK n.kind = true then false else (!(n.name == []) || decide ((n.aliases.length : Int) > 0))) && (!(if n.kind == 9 then false else decide ((n.fields.length : Int) > 0)) &&
    (!(if n.kind == 10 then false else (decide ((n.symbols.length : Int) > 0) || n.has || !(n.dflt == []))) && (!(if n.kind == 14 then false else n.size != 0) && (!(if (n.kind == 11) = true ∨ (n.kind == 12) = true then false else n.items != 0) && !(if n.kind == 13 then false else decide ((n.branches.length : Int) > 0))))))) := by
  have e0 : ∀ l : List UInt8, l.isEmpty = (l == []) := fun l => by cases l <;> rfl
  have e1 : ∀ {α : Type} (l : List α), l.isEmpty = !decide ((l.length : Int) > 0) := fun l => by
    cases l with
    | nil => rfl
    | cons x l => simp
  unfold bareM
  rw [e0 n.name, e0 n.dflt, e1 n.aliases, e1 n.fields, e1 n.symbols, e1 n.branches]
  cases namedK n.kind <;> cases (n.kind == 9) <;> cases (n.kind == 10) <;> cases (n.kind == 14) <;> cases (n.kind == 11) <;> cases (n.kind == 12) <;> cases (n.kind == 13) <;> simp [bne, Bool.and_assoc]
set_option maxRecDepth 100000 in
set_option maxHeartbeats 1600000 in
theorem bare_told (n : NT) : Told Tryz.prog 163 [n.av] (.c (.v (.bool (bareM n)))) := by
  obtain ⟨V, hV⟩ : ∃ V, V = bareM n := ⟨_, rfl⟩
  rw [← hV]
  rw [bareM_eq] at hV
  have hN := named_told n.kind
  have hE : (⟨#[]⟩ : ByteArray).toList = [] := str_toList []
  rw [NT.av_eq, ncells_mk]
  refine VC.told ent_163 Tryz.func163 rfl Tryz.ntmps163 (by simp) (by first | rfl | simp [AV.pureB, AV.pureL, pureL_c, pures]) (by first | rfl | simp [AV.pureB, AV.pureL, pureL_c, pures]) fun hb => ?_
  clear hb
  refine walkGF (And.intro @str_toList hE) ?_
  obtain ⟨p1, hp1⟩ : ∃ p : Bool, p = (!(n.name == []) || decide ((n.aliases.length : Int) > 0)) := ⟨_, rfl⟩
  obtain ⟨p2, hp2⟩ : ∃ p : Bool, p = decide ((n.fields.length : Int) > 0) := ⟨_, rfl⟩
  obtain ⟨p3, hp3⟩ : ∃ p : Bool, p = (decide ((n.symbols.length : Int) > 0) || n.has || !(n.dflt == [])) := ⟨_, rfl⟩
  obtain ⟨p4, hp4⟩ : ∃ p : Bool, p = (n.size != 0) := ⟨_, rfl⟩
  obtain ⟨p5, hp5⟩ : ∃ p : Bool, p = (n.items != 0) := ⟨_, rfl⟩
  obtain ⟨p6, hp6⟩ : ∃ p : Bool, p = decide ((n.branches.length : Int) > 0) := ⟨_, rfl⟩
  rw [← hp1, ← hp2, ← hp3, ← hp4, ← hp5, ← hp6] at hV ⊢
  clear hp1 hp2 hp3 hp4 hp5 hp6
  refine walkC (hN) ?_
  by_cases h9 : n.kind = 9
  · rw [h9] at hV ⊢
    have hv : V = (!p3 && !p4 && !p5 && !p6) := by rw [hV]; simp [namedK, Bool.and_assoc]
    clear hV
    have hn : namedK 9 = true := rfl
    refine walkBF (hn) ?_
    refine ⟨by first | exact .inr rfl | exact .inl rfl, ?_⟩; rw [Tryz.results163]; simp only [resOk, resV, go_sem, simprocAttr]
    refine frz_c ?_
    rw [hv]
    try simp [Bool.and_assoc]
  by_cases h10 : n.kind = 10
  · rw [h10] at hV ⊢
    have hv : V = (!p2 && !p4 && !p5 && !p6) := by rw [hV]; simp [namedK, Bool.and_assoc]
    clear hV
    have hn : namedK 10 = true := rfl
    refine walkBF (hn) ?_
    refine ⟨by first | exact .inr rfl | exact .inl rfl, ?_⟩; rw [Tryz.results163]; simp only [resOk, resV, go_sem, simprocAttr]
    refine frz_c ?_
    rw [hv]
    try simp [Bool.and_assoc]
  by_cases h14 : n.kind = 14
  · rw [h14] at hV ⊢
    have hv : V = (!p2 && !p3 && !p5 && !p6) := by rw [hV]; simp [namedK, Bool.and_assoc]
    clear hV
    have hn : namedK 14 = true := rfl
    refine walkBF (hn) ?_
    refine ⟨by first | exact .inr rfl | exact .inl rfl, ?_⟩; rw [Tryz.results163]; simp only [resOk, resV, go_sem, simprocAttr]
    refine frz_c ?_
    rw [hv]
    try simp [Bool.and_assoc]
  by_cases h11 : n.kind = 11
  · rw [h11] at hV ⊢
    have hv : V = (!p1 && !p2 && !p3 && !p4 && !p6) := by rw [hV]; simp [namedK, Bool.and_assoc]
    clear hV
    have hn : namedK 11 = false := rfl
    refine walkBF (hn) ?_
    refine ⟨by first | exact .inr rfl | exact .inl rfl, ?_⟩; rw [Tryz.results163]; simp only [resOk, resV, go_sem, simprocAttr]
    refine frz_c ?_
    rw [hv]
    try simp [Bool.and_assoc]
  by_cases h12 : n.kind = 12
  · rw [h12] at hV ⊢
    have hv : V = (!p1 && !p2 && !p3 && !p4 && !p6) := by rw [hV]; simp [namedK, Bool.and_assoc]
    clear hV
    have hn : namedK 12 = false := rfl
    refine walkBF (hn) ?_
    refine ⟨by first | exact .inr rfl | exact .inl rfl, ?_⟩; rw [Tryz.results163]; simp only [resOk, resV, go_sem, simprocAttr]
    refine frz_c ?_
    rw [hv]
    try simp [Bool.and_assoc]
  by_cases h13 : n.kind = 13
  · rw [h13] at hV ⊢
    have hv : V = (!p1 && !p2 && !p3 && !p4 && !p5) := by rw [hV]; simp [namedK, Bool.and_assoc]
    clear hV
    have hn : namedK 13 = false := rfl
    refine walkBF (hn) ?_
    refine ⟨by first | exact .inr rfl | exact .inl rfl, ?_⟩; rw [Tryz.results163]; simp only [resOk, resV, go_sem, simprocAttr]
    refine frz_c ?_
    rw [hv]
    try simp [Bool.and_assoc]
  · have e9 : (n.kind == 9) = false := by simpa using h9
    have e10 : (n.kind == 10) = false := by simpa using h10
    have e14 : (n.kind == 14) = false := by simpa using h14
    have e11 : (n.kind == 11) = false := by simpa using h11
    have e12 : (n.kind == 12) = false := by simpa using h12
    have e13 : (n.kind == 13) = false := by simpa using h13
    have hn : namedK n.kind = false := by simp [namedK, h9, h10, h14]
    have hv : V = (!p1 && !p2 && !p3 && !p4 && !p5 && !p6) := by rw [hV, hn]; simp [h9, h10, h14, h11, h12, h13, Bool.and_assoc]
    clear hV
    rw [hn]
    refine walkBF (And.intro e9 (And.intro e10 (And.intro e14 (And.intro e11 (And.intro e12 e13))))) ?_
    refine ⟨by first | exact .inr rfl | exact .inl rfl, ?_⟩; rw [Tryz.results163]; simp only [resOk, resV, go_sem, simprocAttr]
    refine frz_c ?_
    rw [hv]

theorem view_jzero (h : Nat → Option Blkd) : View h (.agg [.c (.v (.int .i64 0)), .c (.v (.int .i64 0)), .c (.v (.string ⟨#[]⟩)), .c (.v (.slice none 0 0)), .c (.v (.slice none 0 0))]) jzero.av := by
  refine .agg rfl fun k x y h1 h2 => ?_
  match k with
  | 0 => obtain rfl := Option.some.inj h1; obtain rfl := Option.some.inj h2; exact .same _
  | 1 => obtain rfl := Option.some.inj h1; obtain rfl := Option.some.inj h2; exact .same _
  | 2 => obtain rfl := Option.some.inj h1; obtain rfl := Option.some.inj h2; exact .same _
  | 3 => obtain rfl := Option.some.inj h1; obtain rfl := Option.some.inj h2; exact .nil 5
  | 4 => obtain rfl := Option.some.inj h1; obtain rfl := Option.some.inj h2; exact .nil 1
  | k + 5 => simp at h1
theorem fieldM_eq (f : FT) : fieldM f = !((!allM simpleM f.aliases || f.has && !jR f.dflt) || !f.has && !jeq f.dflt jzero) := by
  unfold fieldM
  cases f.has <;> simp
set_option maxRecDepth 100000 in
set_option maxHeartbeats 800000 in
theorem fields_told (l : List FT) (hl : l.length ≤ 1000000) (hs : ∀ f ∈ l, f.sm 1000000) : Told Tryz.prog 166 [.c (.sl 9 (l.map FT.cells))] (.c (.v (.bool (fieldsM l)))) := by
  obtain ⟨V, hV⟩ : ∃ V, V = fieldsM l := ⟨_, rfl⟩
  rw [← hV]
  refine VC.told ent_166 Tryz.func166 rfl Tryz.ntmps166 (by simp) (by first | rfl | simp [AV.pureB, AV.pureL, pureL_c, pures]) (by first | rfl | simp [AV.pureB, AV.pureL, pureL_c, pures]) fun hb => ?_
  clear hb
  refine walkG ?_
  refine VC.nil 3 9 1 (by rfl) (by trivial) (by rfl) ?_
  refine VC.loop (ι := {i : Nat // i ≤ l.length ∧ ∀ (j : Nat) (f : FT), j < i → l[j]? = some f → fieldM f = true}) (fun q => [(0, .c (.sl 9 (l.map FT.cells))), (3, .row 40 q.1), (6, .c (.sl 9 (l.map FT.cells))), (7, .c (.v (.int .i64 (l.length : Int)))), (8, .c (.v (.int .i64 (q.1 : Int))))])
    (fun q => [(40, ⟨true, 9, 1, rA sPV ((l.map (·.name)).take q.1)⟩)]) 800 (fun q => l.length - q.1) ⟨0, Nat.zero_le _, fun j f h => by omega⟩ ?_ ?_
  · simp only [rA_len, rA_sc, rA_nil, Weak, eq_self, used_is, sc_any, sc_c, sc_pp, sc_ref, sc_row, sc_agg, sc_fn, ScL, some_imp, List.forall_mem_map, go_sem, Int.reduceBEq, Int.reduceLE, Int.reduceLT, Int.reduceNeg, Nat.reduceAdd, Nat.reduceEqDiff, Nat.reduceLT, Nat.reduceLeDiff, Nat.reduceMul, Nat.reduceSub, reduceCtorEq, ↓reduceIte]
  rintro ⟨i, hi, ht⟩
  simp only []
  refine walkG ?_
  refine VC.cond (by rfl) (by trivial) (fun hc => ?_) (fun hc => ?_)
  · have hlt : i < l.length := by simp at hc; omega
    obtain ⟨f, hx⟩ : ∃ f, l[i]? = some f := ⟨l[i], List.getElem?_eq_getElem hlt⟩
    have hw : IntKind.i64.wrap ((i : Int) + 1) = (i : Int) + 1 := wrap64_id (by omega) (by omega)
    have hxp : (l.map FT.cells)[i]? = some f.cells := by rw [List.getElem?_map, hx]; rfl
    have hln : (rA sPV ((l.map (·.name)).take i)).length = i := by rw [rA_len]; simp; omega
    have hr : rA sPV ((l.map (·.name)).take i) ++ [[.c (.v (.string (str f.name)))]] = rA sPV ((l.map (·.name)).take (i + 1)) := by
      rw [List.take_add_one, List.getElem?_map, hx]
      exact rA_one sPV _ f.name
    have hl2 : (rA sPV ((l.map (·.name)).take (i + 1))).length = i + 1 := by rw [rA_len]; simp; omega
    obtain ⟨hn1, ha1, ha2, hd⟩ := hs f (List.mem_of_getElem? hx)
    have hA := all_told (g := 168) (rule := simpleM) f.aliases fun x hx => simple_told x (by have := ha2 x hx; omega)
    have hR := jRight_told f.dflt (sm_le (by omega) _ hd)
    have hS := same_told _ f.dflt jzero (Nat.le_refl _)
    simp only [JT.av] at hR
    have hM := fieldM_eq f
    obtain ⟨b1, hb1⟩ : ∃ b, b = allM simpleM f.aliases := ⟨_, rfl⟩
    obtain ⟨b2, hb2⟩ : ∃ b, b = jR f.dflt := ⟨_, rfl⟩
    obtain ⟨b3, hb3⟩ : ∃ b, b = jeq f.dflt jzero := ⟨_, rfl⟩
    rw [← hb1, ← hb2, ← hb3] at hM
    rw [← hb1] at hA
    rw [← hb2] at hR
    rw [← hb3] at hS
    replace hM := Lib.hid hM
    clear hb1 hb2 hb3 ha1 ha2 hd
    refine walkGF (And.intro hxp (And.intro @fcells_mk (And.intro @len_cells (And.intro @take_cells (And.intro @take_cellsC (And.intro hln hr)))))) ?_
    refine walkC (hA) ?_
    refine walkGF (And.intro @fcells_mk (And.intro @len_cells (And.intro @take_cells @take_cellsC))) ?_
    refine walkDF (@pureL_c) (hR) ?_
    refine walkGF (And.intro @fcells_mk (And.intro @len_cells (And.intro @take_cells @take_cellsC))) ?_
    (refine AO.step fun K hK => ?_; simp only [go_sem, Int.reduceBEq, Int.reduceLE, Int.reduceLT, Int.reduceNeg, Nat.reduceAdd, Nat.reduceEqDiff, Nat.reduceLT, Nat.reduceLeDiff, Nat.reduceMul, Nat.reduceSub, reduceCtorEq, ↓reduceIte]; (first | refine gsel_go ?_ | skip))
    refine .inr (.inl ⟨.c (.v (.bool b3)), [f.dflt.av, jzero.av], [], fun hg => ⟨hg, by simp [AV.pureL, AV.pureB, JT.av, pureL_c], rfl, fun k x z h5 h6 => ?_, rfl, hS⟩, hK _ _ _ ?_⟩)
    · match k with
      | 0 => obtain rfl := Option.some.inj h5; obtain rfl := Option.some.inj h6; exact .same _
      | 1 => obtain rfl := Option.some.inj h5; obtain rfl := Option.some.inj h6; exact view_jzero _
      | k + 2 => simp at h5
    clear hK K
    refine walkG ?_
    refine VC.cond (by rfl) (by trivial) (fun hc2 => ?_) (fun hc2 => ?_)
    · have hf : V = false := by
        have : fieldM f = false := by
          rw [hM.out, hc2]
          rfl
        have h2 : l.all fieldM = false := by
          rw [List.all_eq_false]
          exact ⟨f, List.mem_of_getElem? hx, by simp [this]⟩
        rw [hV, fieldsM, h2]
        rfl
      subst hf
      refine walkG ?_
      refine ⟨by first | exact .inr rfl | exact .inl rfl, ?_⟩; rw [Tryz.results166]; simp only [resOk, resV, go_sem, simprocAttr]
      exact .c _
    · have hft : fieldM f = true := by
        rw [hM.out, hc2]
        rfl
      refine walkGF (hw) ?_
      refine .next ⟨i + 1, by omega, ?_⟩ ?_ (by simp only []; omega)
      · intro j g hj hg
        by_cases hji : j < i
        · exact ht j g hji hg
        · obtain rfl : j = i := by omega
          rw [hx] at hg
          obtain rfl := Option.some.inj hg
          exact hft
      simp only [hl2, rA_sc, Weak, eq_self, used_is, sc_any, sc_c, sc_pp, sc_ref, sc_row, sc_agg, sc_fn, ScL, some_imp, List.forall_mem_map, go_sem, Int.reduceBEq, Int.reduceLE, Int.reduceLT, Int.reduceNeg, Nat.reduceAdd, Nat.reduceEqDiff, Nat.reduceLT, Nat.reduceLeDiff, Nat.reduceMul, Nat.reduceSub, reduceCtorEq, ↓reduceIte]
      exact ⟨cI (by omega), Nat.le_refl _⟩
  · have hie : i = l.length := by simp at hc; omega
    have htk : (l.map (·.name)).take i = l.map (·.name) := List.take_of_length_le (by simp; omega)
    have hall : l.all fieldM = true := by
      rw [List.all_eq_true]
      intro f hf
      obtain ⟨j, hj⟩ := List.getElem?_of_mem hf
      exact ht j f (by have := (List.getElem?_eq_some_iff.1 hj).1; omega) hj
    have hD := different_told (g := 168) (rule := simpleM) (l.map (·.name)) (by simp; omega) fun x hx => by
      obtain ⟨f, hf, rfl⟩ := List.mem_map.1 hx
      exact simple_told f.name (by have := (hs f hf).1; omega)
    have hv : V = (decide ((l.length : Int) ≤ 40) && diffM simpleM (l.map (·.name))) := by
      rw [hV, fieldsM, hall, Bool.true_and]
      congr 1
      simp
      omega
    clear hV
    replace hv := Lib.hid hv
    rw [htk]
    have hrl : (rA sPV (l.map (·.name))).length = i := by rw [rA_len]; simp; omega
    refine walkGF (hrl) ?_
    (refine AO.step fun K hK => ?_; simp only [go_sem, Int.reduceBEq, Int.reduceLE, Int.reduceLT, Int.reduceNeg, Nat.reduceAdd, Nat.reduceEqDiff, Nat.reduceLT, Nat.reduceLeDiff, Nat.reduceMul, Nat.reduceSub, reduceCtorEq, ↓reduceIte, hrl]; (first | refine gsel_go ?_ | skip))
    refine .inr (.inl ⟨.c (.v (.bool (diffM simpleM (l.map (·.name))))), [.c (.sl 1 ((l.map (·.name)).map sPV)), .fn (.func 168) [] []], [40], fun hg => ⟨hg, by simp [AV.pureL, AV.pureB], rfl, fun k x z h5 h6 => ?_, rfl, hD⟩, hK _ _ _ ?_⟩)
    · match k with
      | 0 =>
        obtain rfl := Option.some.inj h5
        obtain rfl := Option.some.inj h6
        exact View.row (B := ⟨true, 9, 1, rA sPV (l.map fun f : FT => f.name)⟩) (es := (l.map fun f : FT => f.name).map sPV) rfl rfl hrl (rA_pv _ _)
      | 1 => obtain rfl := Option.some.inj h5; obtain rfl := Option.some.inj h6; exact .same _
      | k + 2 => simp at h5
    clear hK K
    refine walkG ?_
    refine ⟨by first | exact .inr rfl | exact .inl rfl, ?_⟩; rw [Tryz.results166]; simp only [resOk, resV, go_sem, simprocAttr]
    rw [hv.out]
    exact .c _

set_option maxRecDepth 100000 in
set_option maxHeartbeats 400000 in
theorem ixfI_told {g : FuncId} {fs cs : List AV} (hp : AV.pureL fs = true) (hp' : AV.pureL cs = true) (l : List (Int)) (p : Int → Bool) (hk : ∀ x ∈ l, Told Tryz.prog g (fs ++ ([.c (.v (.int .i64 x))] ++ cs)) (.c (.v (.bool (p x))))) :
    Told Tryz.prog 254 [.c (.sl 1 (l.map iPV)), .fn (.func g) fs cs] (.c (.v (.int .i64 (idxP p l)))) := by
  refine VC.told ent_254 Tryz.func254 rfl Tryz.ntmps254 (by simp) (by simp [AV.pureB, AV.pureL, hp, hp']) rfl fun hb => ?_
  simp only [List.mem_cons, List.not_mem_nil, or_false, forall_eq_or_imp, forall_eq, abd_c, pbd_sl, List.length_map] at hb
  have h1 := hb.1.1
  clear hb
  refine walkG ?_
  refine VC.loop (ι := {i : Nat // i ≤ l.length ∧ ∀ j x, j < i → l[j]? = some x → p x = false}) (fun i => [(0, .c (.sl 1 (l.map iPV))), (1, .fn (.func g) fs cs), (7, .c (.v (.int .i64 l.length))), (8, .c (.v (.int .i64 i.1)))]) (fun _ => []) 0 (fun i => l.length - i.1) ⟨0, Nat.zero_le _, by intro j x hj; omega⟩ ?_ ?_
  · simp only [sc_pureL hp, sc_pureL hp', Weak, eq_self, used_is, sc_any, sc_c, sc_pp, sc_ref, sc_row, sc_agg, sc_fn, ScL, some_imp, List.forall_mem_map, go_sem, Int.reduceBEq, Int.reduceLE, Int.reduceLT, Int.reduceNeg, Nat.reduceAdd, Nat.reduceEqDiff, Nat.reduceLT, Nat.reduceLeDiff, Nat.reduceMul, Nat.reduceSub, reduceCtorEq, ↓reduceIte]
    all_goals rfl
  rintro ⟨i, hi, ht⟩
  refine walkG ?_
  refine VC.cond (by rfl) (by trivial) (fun hc => ?_) (fun hc => ?_)
  · simp only [decide_eq_true_eq] at hc
    obtain ⟨x, hx⟩ : ∃ x, l[i]? = some x := ⟨l[i]'(by omega), List.getElem?_eq_getElem _⟩
    have hw : IntKind.i64.wrap ((i : Int) + 1) = (i : Int) + 1 := wrap64_id (by omega) (by omega)
    have hkx := hk x (List.mem_of_getElem? hx)
    (repeat (first | refine pass ?_ | refine VC.region (by rfl) (by rfl) ?_ | (refine AO.step fun K hK => ?_; simp only [List.getElem?_map, hx, iPV, go_sem, Int.reduceBEq, Int.reduceLE, Int.reduceLT, Int.reduceNeg, Nat.reduceAdd, Nat.reduceEqDiff, Nat.reduceLT, Nat.reduceLeDiff, Nat.reduceMul, Nat.reduceSub, reduceCtorEq, ↓reduceIte]; (first | refine gsel_skip ?_ | refine gsel_go ?_ | skip); (first | refine hK _ _ _ ?_ | refine ⟨by first | omega | exact ⟨_, rfl, rfl⟩ | exact fun _ => ⟨_, rfl, rfl⟩ | (intro h; simp only [List.getElem?_map, hx, iPV, h, true_and]; omega) | (clear hK; intro h; simp_all <;> omega), hK _ _ _ ?_⟩); clear hK K) | refine VC.draw mixP (by rfl) (by rfl) ?_ | refine ⟨okd_of (by kernel_rfl), ?_⟩ | refine BQ.other (by decide) ?_ | refine VC.seq ?_ | refine AO.nil ?_ | refine VC.block ?_))
    ((refine AO.step fun K hK => ?_; simp only [go_sem, Int.reduceBEq, Int.reduceLE, Int.reduceLT, Int.reduceNeg, Nat.reduceAdd, Nat.reduceEqDiff, Nat.reduceLT, Nat.reduceLeDiff, Nat.reduceMul, Nat.reduceSub, reduceCtorEq, ↓reduceIte, iPV, hp, hp', pureL_app, pureL_c, List.append_assoc]; (first | refine gsel_go ?_ | skip)); refine .inl ⟨_, hkx, hK _ _ _ ?_⟩; clear hK K)
    refine walkG ?_
    refine VC.cond (by rfl) (by trivial) (fun hpx => ?_) (fun hpx => ?_)
    · have hr := idxP_at hx hpx ht
      refine walkG ?_
      refine ⟨by first | exact .inr rfl | exact .inl rfl, ?_⟩; rw [Tryz.results254]; simp only [resOk, resV, go_sem, simprocAttr]
      rw [hr]
      exact .c _
    · refine walkGF (hw) ?_
      refine .next ⟨i + 1, by omega, fun j y hj hy => ?_⟩ ?_ (by simp only []; omega)
      · rcases Nat.lt_or_ge j i with h | h
        · exact ht j y h hy
        · obtain rfl : j = i := by omega
          rw [hx] at hy
          obtain rfl := Option.some.inj hy
          exact hpx
      simp only [sc_pureL hp, sc_pureL hp', Weak, eq_self, used_is, sc_any, sc_c, sc_pp, sc_ref, sc_row, sc_agg, sc_fn, ScL, some_imp, List.forall_mem_map, go_sem, Int.reduceBEq, Int.reduceLE, Int.reduceLT, Int.reduceNeg, Nat.reduceAdd, Nat.reduceEqDiff, Nat.reduceLT, Nat.reduceLeDiff, Nat.reduceMul, Nat.reduceSub, reduceCtorEq, ↓reduceIte]
      exact cI (by omega)
  · simp only [decide_eq_false_iff_not] at hc
    obtain rfl : i = l.length := by omega
    have hr := idxP_none ht
    refine walkG ?_
    refine ⟨by first | exact .inr rfl | exact .inl rfl, ?_⟩; rw [Tryz.results254]; simp only [resOk, resV, go_sem, simprocAttr]
    rw [hr]
    exact .c _
set_option maxRecDepth 100000 in
set_option maxHeartbeats 400000 in
theorem cnfI_told {g : FuncId} {fs cs : List AV} (hp : AV.pureL fs = true) (hp' : AV.pureL cs = true) (l : List (Int)) (p : Int → Bool) (hk : ∀ x ∈ l, Told Tryz.prog g (fs ++ ([.c (.v (.int .i64 x))] ++ cs)) (.c (.v (.bool (p x))))) :
    Told Tryz.prog 222 [.c (.sl 1 (l.map iPV)), .fn (.func g) fs cs] (.c (.v (.bool (l.any p)))) := by
  have hi := ixfI_told hp hp' l p hk
  refine VC.told ent_222 Tryz.func222 rfl Tryz.ntmps222 (by simp) (by simp [AV.pureB, AV.pureL, hp, hp']) rfl fun hb => ?_
  clear hb
  refine walkG ?_
  refine walkCF (And.intro hp hp') (hi) ?_
  refine walkG ?_
  refine ⟨by first | exact .inr rfl | exact .inl rfl, ?_⟩; rw [Tryz.results222]; simp only [resOk, resV, go_sem, simprocAttr]
  exact frz_c (by rw [idxP_any])

theorem kindAt_of {ns : List NT} {j : Nat} {n : NT} (h : ns[j]? = some n) : kindAt ns j = n.kind := by rw [kindAt, h]
set_option maxRecDepth 100000 in
set_option maxHeartbeats 800000 in
theorem union1_told (s : ST) (j : Nat) (k kind : Int) (hj : j < s.nodes.length) :
    Told Tryz.prog 223 [.c (.v (.int .i64 (j : Int))), .pp [.v (.int .i64 k)], .pp [.v (.int .i64 kind)], .pp s.cells] (.c (.v (.bool ((j : Int) == k || (!namedK kind && kindAt s.nodes j == kind))))) := by
  obtain ⟨n, hn⟩ : ∃ n, s.nodes[j]? = some n := ⟨s.nodes[j], List.getElem?_eq_getElem hj⟩
  have hnp : (s.nodes.map NT.cells)[j]? = some n.cells := by rw [List.getElem?_map, hn]; rfl
  rw [kindAt_of hn]
  have hN := named_told kind
  rw [scells_mk]
  refine VC.told ent_223 Tryz.func223 rfl Tryz.ntmps223 (by simp) (by first | rfl | simp [AV.pureB, AV.pureL, pureL_c, pures]) (by first | rfl | simp [AV.pureB, AV.pureL, pureL_c, pures]) fun hb => ?_
  clear hb
  refine walkG ?_
  refine walkD (hN) ?_
  refine walkGF (And.intro hnp @ncells_mk) ?_
  refine ⟨by first | exact .inr rfl | exact .inl rfl, ?_⟩; rw [Tryz.results223]; simp only [resOk, resV, go_sem, simprocAttr]
  exact .c _
theorem drop_at {α : Type} {l : List α} {i : Nat} {x : α} (h : l[i]? = some x) : l.drop i = x :: l.drop (i + 1) := by
  obtain ⟨hlt, rfl⟩ := List.getElem?_eq_some_iff.1 h
  exact List.drop_eq_getElem_cons hlt
set_option maxRecDepth 100000 in
set_option maxHeartbeats 800000 in
theorem union_told (s : ST) (l : List Int) (hl : ∀ k ∈ l, 0 ≤ k ∧ k < (s.nodes.length : Int)) (hlen : l.length ≤ 1000000) :
    Told Tryz.prog 169 [s.av, .c (.sl 1 (l.map iPV))] (.c (.v (.bool (unionM s.nodes l)))) := by
  obtain ⟨V, hV⟩ : ∃ V, V = unionM s.nodes l := ⟨_, rfl⟩
  rw [← hV]
  unfold unionM at hV
  rw [ST.av_eq, scells_mk]
  refine VC.told ent_169 Tryz.func169 rfl Tryz.ntmps169 (by simp) (by first | rfl | simp [AV.pureB, AV.pureL, pureL_c, pures]) (by first | rfl | simp [AV.pureB, AV.pureL, pureL_c, pures]) fun hb => ?_
  clear hb
  refine walkG ?_
  refine VC.cond (by rfl) (by trivial) (fun hc => ?_) (fun hc => ?_)
  · have hf : V = false := by
      have : ¬ (1 ≤ l.length ∧ l.length ≤ 10) := by simp at hc; omega
      rw [hV]
      by_cases h1 : 1 ≤ l.length
      · have : ¬ l.length ≤ 10 := fun h => this ⟨h1, h⟩
        simp [this]
      · simp [h1]
    subst hf
    refine walkG ?_
    refine ⟨by first | exact .inr rfl | exact .inl rfl, ?_⟩; rw [Tryz.results169]; simp only [resOk, resV, go_sem, simprocAttr]
    exact .c _
  have hv : branchesM s.nodes [] l = V := by
    have h1 : 1 ≤ l.length ∧ l.length ≤ 10 := by simp at hc; omega
    rw [hV]
    simp [h1.1, h1.2]
  clear hV hc
  refine VC.frz [0] [(1, .c (.sl 1 (l.map iPV))), (2, .pp [.sl 10 (s.nodes.map NT.cells), .v (.int .i64 s.root)])] [] 400 ?_ ?_
  · simp only [WeakF, used_is, sc_any, sc_c, sc_pp, sc_ref, sc_row, sc_agg, sc_fn, ScL, some_imp, List.forall_mem_map, go_sem, Int.reduceBEq, Int.reduceLE, Int.reduceLT, Int.reduceNeg, Nat.reduceAdd, Nat.reduceEqDiff, Nat.reduceLT, Nat.reduceLeDiff, Nat.reduceMul, Nat.reduceSub, reduceCtorEq, ↓reduceIte]
    exact ⟨.same _, .ref (es := [.sl 10 (s.nodes.map NT.cells), .v (.int .i64 s.root)]) (by simp) rfl rfl rfl rfl⟩
  refine walkG ?_
  refine VC.loop (ι := {i : Nat // i ≤ l.length ∧ branchesM s.nodes (l.take i) (l.drop i) = V})
    (fun q => [(1, .c (.sl 1 (l.map iPV))), (2, .pp [.sl 10 (s.nodes.map NT.cells), .v (.int .i64 s.root)]), (16, .c (.sl 1 (l.map iPV))), (17, .c (.v (.int .i64 (l.length : Int)))), (18, .c (.v (.int .i64 (q.1 : Int))))]) (fun q => []) 800 (fun q => l.length - q.1) ⟨0, Nat.zero_le _, by simpa using hv⟩ ?_ ?_
  · simp only [Weak, eq_self, used_is, sc_any, sc_c, sc_pp, sc_ref, sc_row, sc_agg, sc_fn, ScL, some_imp, List.forall_mem_map, go_sem, Int.reduceBEq, Int.reduceLE, Int.reduceLT, Int.reduceNeg, Nat.reduceAdd, Nat.reduceEqDiff, Nat.reduceLT, Nat.reduceLeDiff, Nat.reduceMul, Nat.reduceSub, reduceCtorEq, ↓reduceIte]
  clear hv
  rintro ⟨i, hi, hv⟩
  simp only []
  refine walkG ?_
  refine VC.cond (by rfl) (by trivial) (fun hc => ?_) (fun hc => ?_)
  · have hlt : i < l.length := by simp at hc; omega
    obtain ⟨x, hx⟩ : ∃ x, l[i]? = some x := ⟨l[i], List.getElem?_eq_getElem hlt⟩
    obtain ⟨h0, h1⟩ := hl x (List.mem_of_getElem? hx)
    obtain ⟨p, rfl⟩ : ∃ p : Nat, x = (p : Int) := ⟨x.toNat, by omega⟩
    have hp : p < s.nodes.length := by omega
    obtain ⟨n, hn⟩ : ∃ n, s.nodes[p]? = some n := ⟨s.nodes[p], List.getElem?_eq_getElem hp⟩
    have hnp : (s.nodes.map NT.cells)[p]? = some n.cells := by rw [List.getElem?_map, hn]; rfl
    have hw : IntKind.i64.wrap ((i : Int) + 1) = (i : Int) + 1 := wrap64_id (by omega) (by omega)
    have hxp : (l.map iPV)[i]? = some (iPV (p : Int)) := by rw [List.getElem?_map, hx]; rfl
    have htk : (l.map iPV).take i = (l.take i).map iPV := by rw [List.map_take]
    have hF := cnfI_told (g := 223) (fs := []) (cs := [.pp [.v (.int .i64 (p : Int))], .pp [.v (.int .i64 n.kind)], .pp s.cells]) rfl rfl (l.take i) (fun m => m == (p : Int) || (!namedK n.kind && kindAt s.nodes m.toNat == n.kind)) fun m hm => by
      obtain ⟨h2, h3⟩ := hl m (List.mem_of_mem_take hm)
      obtain ⟨j, rfl⟩ : ∃ j : Nat, m = (j : Int) := ⟨m.toNat, by omega⟩
      have := union1_told s j (p : Int) n.kind (by omega)
      rw [Int.toNat_natCast]
      exact this
    rw [drop_at hx, branchesM, branchM, Int.toNat_natCast, kindAt_of hn] at hv
    obtain ⟨b, hb⟩ : ∃ b : Bool, b = (l.take i).any fun m => m == (p : Int) || (!namedK n.kind && kindAt s.nodes m.toNat == n.kind) := ⟨_, rfl⟩
    rw [← hb] at hF hv
    refine walkGF (And.intro hxp (And.intro @iPV_eq (And.intro hnp @ncells_mk))) ?_
    (refine AO.step fun K hK => ?_; simp only [go_sem, Int.reduceBEq, Int.reduceLE, Int.reduceLT, Int.reduceNeg, Nat.reduceAdd, Nat.reduceEqDiff, Nat.reduceLT, Nat.reduceLeDiff, Nat.reduceMul, Nat.reduceSub, reduceCtorEq, ↓reduceIte, htk]; (first | refine gsel_go ?_ | skip))
    refine .inr (.inl ⟨.c (.v (.bool b)), [.c (.sl 1 ((l.take i).map iPV)), .fn (.func 223) [] [.pp [.v (.int .i64 (p : Int))], .pp [.v (.int .i64 n.kind)], .pp s.cells]], [832, 904], fun hg => ⟨hg, by rfl, rfl, fun k x z h5 h6 => ?_, rfl, hF⟩, hK _ _ _ ?_⟩)
    · match k with
      | 0 => obtain rfl := Option.some.inj h5; obtain rfl := Option.some.inj h6; exact .same _
      | 1 =>
        obtain rfl := Option.some.inj h5
        obtain rfl := Option.some.inj h6
        refine .fn rfl (by simp) rfl fun k x z h7 h8 => ?_
        match k with
        | 0 => obtain rfl := Option.some.inj h7; obtain rfl := Option.some.inj h8; exact View.ref (es := [.v (.int .i64 (p : Int))]) rfl rfl rfl rfl
        | 1 => obtain rfl := Option.some.inj h7; obtain rfl := Option.some.inj h8; exact View.ref (es := [.v (.int .i64 n.kind)]) rfl rfl rfl rfl
        | 2 => obtain rfl := Option.some.inj h7; obtain rfl := Option.some.inj h8; exact .same _
        | k + 3 => simp at h7
      | k + 2 => simp at h5
    clear hK K
    refine walkG ?_
    refine VC.cond (by rfl) (by trivial) (fun hc2 => ?_) (fun hc2 => ?_)
    · have hf : V = false := by
        rw [← hv]
        have : (n.kind != 13 && !b) = false := by
          cases b <;> simp at hc2 ⊢
          exact hc2
        rw [this]
        rfl
      subst hf
      refine walkG ?_
      refine ⟨by first | exact .inr rfl | exact .inl rfl, ?_⟩; rw [Tryz.results169]; simp only [resOk, resV, go_sem, simprocAttr]
      exact .c _
    · refine walkGF (hw) ?_
      refine .next ⟨i + 1, by omega, ?_⟩ ?_ (by simp only []; omega)
      · have : (n.kind != 13 && !b) = true := by
          cases b <;> simp at hc2 ⊢
          exact hc2
        rw [this, Bool.true_and] at hv
        rw [List.take_add_one, hx]
        exact hv
      simp only [Weak, eq_self, used_is, sc_any, sc_c, sc_pp, sc_ref, sc_row, sc_agg, sc_fn, ScL, some_imp, List.forall_mem_map, go_sem, Int.reduceBEq, Int.reduceLE, Int.reduceLT, Int.reduceNeg, Nat.reduceAdd, Nat.reduceEqDiff, Nat.reduceLT, Nat.reduceLeDiff, Nat.reduceMul, Nat.reduceSub, reduceCtorEq, ↓reduceIte]
      try exact cI (by omega)
  · have hie : i = l.length := by simp at hc; omega
    have hf : V = true := by
      rw [← hv, hie, List.drop_length, branchesM]
    subst hf
    refine walkG ?_
    refine ⟨by first | exact .inr rfl | exact .inl rfl, ?_⟩; rw [Tryz.results169]; simp only [resOk, resV, go_sem, simprocAttr]
    exact .c _

set_option maxRecDepth 100000 in
set_option maxHeartbeats 1600000 in
theorem node_told (s : ST) (n : NT) (hsm : n.sm 1000000) (hbr : n.kind = 13 → ∀ k ∈ n.branches, 0 ≤ k ∧ k < (s.nodes.length : Int)) : Told Tryz.prog 85 [s.av, n.av] (.c (.v (.bool (nodeM s.nodes n)))) := by
  obtain ⟨V, hV⟩ : ∃ V, V = nodeM s.nodes n := ⟨_, rfl⟩
  rw [← hV]
  unfold nodeM at hV
  obtain ⟨hn1, hn2, ⟨ha1, ha2⟩, ⟨hs1, hs2⟩, hb1, hf1, hf2⟩ := hsm
  have hB := bare_told n
  have hN := named_told n.kind
  have hF := full_told n.name (by omega)
  have hKd := kind_told n.name
  have hA := all_told (g := 89) (rule := fullM) n.aliases fun x hx => full_told x (by have := ha2 x hx; omega)
  have hFi := fields_told n.fields hf1 hf2
  have hC := contains_told n.symbols n.dflt
  have hD := different_told (g := 168) (rule := simpleM) n.symbols (by omega) fun x hx => simple_told x (by have := hs2 x hx; omega)
  have hU := fun h => union_told s n.branches (hbr h) hb1
  clear hbr ha1 ha2 hs2 hf2
  simp only [NT.av_eq, ncells_mk, List.map_cons, List.map_nil] at hB
  simp only [ST.av_eq, scells_mk, List.map_cons, List.map_nil] at hU
  obtain ⟨b0, h0⟩ : ∃ b, b = bareM n := ⟨_, rfl⟩
  obtain ⟨bN, hNN⟩ : ∃ b, b = namedK n.kind := ⟨_, rfl⟩
  obtain ⟨bF, hFF⟩ : ∃ b, b = fullM n.name := ⟨_, rfl⟩
  obtain ⟨kK, hKK⟩ : ∃ b, b = kindM n.name := ⟨_, rfl⟩
  obtain ⟨bA, hAA⟩ : ∃ b, b = allM fullM n.aliases := ⟨_, rfl⟩
  rw [← h0] at hV hB
  rw [← hNN] at hV hN
  rw [← hFF] at hV hF
  rw [← hKK] at hV hKd
  rw [← hAA] at hV hA
  clear h0 hFF hKK hAA
  rw [NT.av_eq, ncells_mk, ST.av_eq, scells_mk]
  have hE : (⟨#[]⟩ : ByteArray).toList = [] := str_toList []
  refine VC.told ent_85 Tryz.func85 rfl Tryz.ntmps85 (by simp) (by first | rfl | simp [AV.pureB, AV.pureL, pureL_c, pures]) (by first | rfl | simp [AV.pureB, AV.pureL, pureL_c, pures]) fun hb => ?_
  clear hb
  refine walkG ?_
  refine walkD (hB) ?_
  refine walkG ?_
  refine VC.cond (by rfl) (by trivial) (fun hc => ?_) (fun hc => ?_)
  · have hf : V = false := by
      rw [hV]
      have : (decide (1 ≤ n.kind) && (decide (n.kind ≤ 14) && b0)) = false := by
        simp at hc ⊢
        intro h1 h2
        cases b0 with
        | false => rfl
        | true => simp at hc; omega
      rw [this]
      rfl
    subst hf
    refine walkG ?_
    refine ⟨by first | exact .inr rfl | exact .inl rfl, ?_⟩; rw [Tryz.results85]; simp only [resOk, resV, go_sem, simprocAttr]
    exact .c _
  have h1 : (decide (1 ≤ n.kind) && (decide (n.kind ≤ 14) && b0)) = true := by
    simp at hc ⊢
    exact ⟨by omega, by omega, hc.2⟩
  rw [h1, Bool.true_and] at hV
  clear h1 hc
  refine walkG ?_
  refine walkC (hN) ?_
  refine walkG ?_
  refine walkD (hF) ?_
  refine walkG ?_
  refine walkD (hKd) ?_
  refine walkG ?_
  refine walkD (hA) ?_
  refine walkG ?_
  refine VC.cond (by rfl) (by trivial) (fun hc => ?_) (fun hc => ?_)
  · have hf : V = false := by
      rw [hV]
      have : (!bN || (bF && (kK == 0 && bA))) = false := by
        cases bN <;> cases bF <;> cases bA <;> simp at hc ⊢
        simpa using hc
      rw [this]
      rfl
    subst hf
    refine walkG ?_
    refine ⟨by first | exact .inr rfl | exact .inl rfl, ?_⟩; rw [Tryz.results85]; simp only [resOk, resV, go_sem, simprocAttr]
    exact .c _
  have h1 : (!bN || (bF && (kK == 0 && bA))) = true := by
    cases bN <;> cases bF <;> cases bA <;> simp at hc ⊢
    simpa using hc
  rw [h1, Bool.true_and] at hV
  clear h1 hc hN hF hKd hA hB
  by_cases h9 : n.kind = 9
  · rw [if_pos h9] at hV
    subst hV
    rw [h9]
    refine walkB ?_
    refine walkC (hFi) ?_
    refine walkG ?_
    refine ⟨by first | exact .inr rfl | exact .inl rfl, ?_⟩; rw [Tryz.results85]; simp only [resOk, resV, go_sem, simprocAttr]
    exact .c _
  by_cases h10 : n.kind = 10
  · rw [if_neg h9, if_pos h10] at hV
    rw [h10]
    obtain ⟨bC, hCC⟩ : ∃ b, b = n.symbols.contains n.dflt := ⟨_, rfl⟩
    obtain ⟨bD, hDD⟩ : ∃ b, b = diffM simpleM n.symbols := ⟨_, rfl⟩
    rw [← hCC] at hV hC
    rw [← hDD] at hV hD
    clear hCC hDD
    refine walkB ?_
    refine walkC (hC) ?_
    refine walkGF (And.intro @str_toList hE) ?_
    refine VC.cond (by rfl) (by trivial) (fun hc => ?_) (fun hc => ?_)
    · have hf : V = false := by
        rw [hV]
        have : ((n.has == bC) && (n.has || n.dflt.isEmpty)) = false := by
          cases hh : n.has <;> cases bC <;> cases hd : n.dflt <;> simp [hh, hd] at hc ⊢
        rw [this]
        rfl
      subst hf
      refine walkG ?_
      refine ⟨by first | exact .inr rfl | exact .inl rfl, ?_⟩; rw [Tryz.results85]; simp only [resOk, resV, go_sem, simprocAttr]
      exact .c _
    · have h1 : ((n.has == bC) && (n.has || n.dflt.isEmpty)) = true := by
        cases hh : n.has <;> cases bC <;> cases hd : n.dflt <;> simp [hh, hd] at hc ⊢
      rw [h1, Bool.true_and] at hV
      have hv : V = ((decide ((n.symbols.length : Int) ≥ 1) && decide ((n.symbols.length : Int) ≤ 40)) && bD) := by
        rw [hV, Bool.and_assoc]
        congr 1
        · simp
          omega
        · congr 1
          simp
          omega
      clear hV hc h1
      replace hv := Lib.hid hv
      refine walkG ?_
      refine walkD (hD) ?_
      refine walkG ?_
      refine ⟨by first | exact .inr rfl | exact .inl rfl, ?_⟩; rw [Tryz.results85]; simp only [resOk, resV, go_sem, simprocAttr]
      rw [hv.out]
      exact .c _
  by_cases h14 : n.kind = 14
  · rw [if_neg h9, if_neg h10, if_pos h14] at hV
    rw [h14]
    refine walkB ?_
    refine ⟨by first | exact .inr rfl | exact .inl rfl, ?_⟩; rw [Tryz.results85]; simp only [resOk, resV, go_sem, simprocAttr]
    rw [hV]
    exact .c _
  by_cases h13 : n.kind = 13
  · rw [if_neg h9, if_neg h10, if_neg h14, if_pos h13] at hV
    subst hV
    rw [h13]
    have hU := hU h13
    refine walkB ?_
    refine walkC (hU) ?_
    refine walkG ?_
    refine ⟨by first | exact .inr rfl | exact .inl rfl, ?_⟩; rw [Tryz.results85]; simp only [resOk, resV, go_sem, simprocAttr]
    exact .c _
  · rw [if_neg h9, if_neg h10, if_neg h14, if_neg h13] at hV
    subst hV
    have e9 : (n.kind == 9) = false := by simpa using h9
    have e10 : (n.kind == 10) = false := by simpa using h10
    have e14 : (n.kind == 14) = false := by simpa using h14
    have e13 : (n.kind == 13) = false := by simpa using h13
    refine walkBF (And.intro e9 (And.intro e10 (And.intro e14 e13))) ?_
    refine ⟨by first | exact .inr rfl | exact .inl rfl, ?_⟩; rw [Tryz.results85]; simp only [resOk, resV, go_sem, simprocAttr]
    exact .c _
end
end Go.Proofs.YtllnlmchjljhlaaGreatDoor
