/- jprint.Number and slices.Reverse of bytes, as contracts of functions to which a row is lent. -/
import Derived.Test.YticfioblapjkmaaGreatBase
import Derived.Test.YticfioblapjkmaaGreatTy
namespace Go.Proofs.YticfioblapjkmaaGreat
open Go.RowKit
set_option linter.unusedVariables false
set_option linter.unusedSimpArgs false
attribute [local go_sem] opx opE ev okx gcond bnd okO AV.get AV.okb cAV upd_at putd_some putd_none wrs_nil wrs_cons look_nil look_cons st argT_at bpick_and bpick_or bpick_true bpick_false binV binI binS binVOk binOk isShift binSOk unV unVOk loadV loadP cellsA zeroA Blkd.len setE grown moreA moreR moreOk eqRes pv fillA fillE putSeg AV.cellish AV.pureL AV.pureB lentL_is ex_some AV.ren AV.renL renL_c Blkd.ren rho wrM renN lentOk rhoE keepM endOk tyA_2 tyA_3 tyA_4 tyA_5 tyA_6 tyA_7 tyA_8 tyA_9 tyA_10 tyA_11 tyA_12 tyA_13 tyA_14 tyA_15 tyA_16 tyA_17 tyA_18 tyA_19 tyA_21 tyA_22 tyA_23 tyA_24 tyA_25 tyA_28 tyA_29 tyA_38 tyA_39 tyA_40 tyA_41 tyA_42 tyA_43 tyA_49 tyA_50 tyA_51 tyA_52 tyA_53 tyA_57 tyA_62 tyA_76 tyA_87 tyA_88 tyA_89 tyA_100 tyA_101 tyA_102 tyA_106 tyA_119 tyA_128 tyA_130 tyA_132 tyA_137 tyA_141 tyA_146 tyA_149 tyA_150 tyA_151 tyA_152 tyA_153 tyA_154 tyA_155 tyA_157 tyA_158 Option.map_some Option.map_none Option.getD_some Option.getD_none Option.bind_some Option.bind_none List.getElem?_cons_zero List.getElem?_cons_succ List.getElem?_nil List.getElem?_toArray List.length_cons List.length_nil List.length_map List.forall_mem_map List.map_cons List.map_nil List.drop_zero List.drop_succ_cons List.drop_nil List.take_zero List.take_succ_cons List.take_nil List.mem_cons List.not_mem_nil or_false forall_eq_or_imp forall_eq List.set_cons_zero List.set_cons_succ List.cons_append List.nil_append List.append_nil List.foldl_cons List.foldl_nil List.replicate_succ List.replicate_zero List.all_cons List.all_nil if_true if_false Bool.false_eq_true ne_eq not_false_eq_true not_true_eq_false true_and and_true and_self true_implies imp_self implies_true forall_const beq_self_eq_true Bool.and_true Bool.true_and Bool.and_false Bool.false_and Bool.or_true Bool.true_or Bool.or_false Bool.false_or Bool.not_true Bool.not_false Bool.not_eq_eq_eq_not intKindOf Value.oneCell' Int.toNat_natCast beq_true beq_false Bool.not_eq_true false_implies false_or true_or or_true Nat.zero_add Nat.add_zero decide_true decide_false Int.cast_ofNat_Int Int.toNat_zero Int.toNat_one eq_self

/-- Bytes as a row's elements. -/
def bA (l : List UInt8) : List (List AV) := l.map fun b => [AV.c (.v (.int .u8 (b.toNat : Int)))]
theorem bA_len (l : List UInt8) : (bA l).length = l.length := by simp [bA]
theorem bA_at {l : List UInt8} {i : Nat} {x : UInt8} (h : l[i]? = some x) : (bA l)[i]? = some [AV.c (.v (.int .u8 (x.toNat : Int)))] := by simp [bA, h]
theorem bA_set (l : List UInt8) (i : Nat) (x : UInt8) : (bA l).set i [AV.c (.v (.int .u8 (x.toNat : Int)))] = bA (l.set i x) := by simp [bA, List.map_set]
theorem bA_app (l m : List UInt8) : bA l ++ bA m = bA (l ++ m) := by simp [bA]
theorem bA_one (l : List UInt8) (x : UInt8) : bA l ++ [[AV.c (.v (.int .u8 (x.toNat : Int)))]] = bA (l ++ [x]) := by simp [bA]
theorem bA_nil : bA [] = [] := rfl
theorem bA_cons (x : UInt8) (l : List UInt8) : bA (x :: l) = [AV.c (.v (.int .u8 (x.toNat : Int)))] :: bA l := rfl
theorem bA_pv (l : List UInt8) : bA l = (bytePV l).map fun e => e.map AV.c := by simp [bA, bytePV]
theorem bA_ren (ρ : Nat → Nat) (l : List UInt8) : (bA l).map (AV.renL ρ) = bA l := by
  induction l with
  | nil => rfl
  | cons x l ih => rw [bA_cons, List.map_cons, ih]; rfl
theorem bA_sc {used : Nat → Prop} {h : Nat → Option Blkd} (l : List UInt8) : (∀ e ∈ bA l, ∀ x ∈ e, Sc used h x) = True := eq_true fun e he x hx => by
  obtain ⟨b, _, rfl⟩ := List.mem_map.1 he
  simp at hx
  subst hx
  exact .c
/-- A row of bytes of the call's own. -/
def bB (l : List UInt8) : Blkd := ⟨true, 5, 1, bA l⟩

set_option maxRecDepth 100000 in
set_option maxHeartbeats 800000 in
theorem reverse_told (l : List UInt8) (hl : l.length ≤ 1099511627776) : ToldM Tryz.prog 22 [.row 1000000 l.length] [bB l] [some (bB l.reverse)] (.tup []) := by
  unfold bB
  refine VC.toldM ent_22 [] Tryz.func22 rfl Tryz.ntmps22 (by simp) (by simp only [ bA_len, bA_sc, ScM, zOk, inL, eq_self, used_is, sc_any, sc_c, sc_pp, sc_ref, sc_row, sc_agg, sc_tup, sc_fn, ScL, some_imp, List.forall_mem_map, Nat.le_refl, go_sem, Int.reduceBEq, Int.reduceLE, Int.reduceLT, Int.reduceNeg, Nat.reduceAdd, Nat.reduceEqDiff, Nat.reduceLT, Nat.reduceLeDiff, Nat.reduceMul, Nat.reduceSub, reduceCtorEq, ↓reduceIte]) (by simp only [ bA_len, bA_sc, ScM, zOk, inL, eq_self, used_is, sc_any, sc_c, sc_pp, sc_ref, sc_row, sc_agg, sc_tup, sc_fn, ScL, some_imp, List.forall_mem_map, Nat.le_refl, go_sem, Int.reduceBEq, Int.reduceLE, Int.reduceLT, Int.reduceNeg, Nat.reduceAdd, Nat.reduceEqDiff, Nat.reduceLT, Nat.reduceLeDiff, Nat.reduceMul, Nat.reduceSub, reduceCtorEq, ↓reduceIte]) (by simp only [ bA_len, bA_sc, ScM, zOk, inL, eq_self, used_is, sc_any, sc_c, sc_pp, sc_ref, sc_row, sc_agg, sc_tup, sc_fn, ScL, some_imp, List.forall_mem_map, Nat.le_refl, go_sem, Int.reduceBEq, Int.reduceLE, Int.reduceLT, Int.reduceNeg, Nat.reduceAdd, Nat.reduceEqDiff, Nat.reduceLT, Nat.reduceLeDiff, Nat.reduceMul, Nat.reduceSub, reduceCtorEq, ↓reduceIte]) (by simp only [ bA_len, bA_sc, ScM, zOk, inL, eq_self, used_is, sc_any, sc_c, sc_pp, sc_ref, sc_row, sc_agg, sc_tup, sc_fn, ScL, some_imp, List.forall_mem_map, Nat.le_refl, go_sem, Int.reduceBEq, Int.reduceLE, Int.reduceLT, Int.reduceNeg, Nat.reduceAdd, Nat.reduceEqDiff, Nat.reduceLT, Nat.reduceLeDiff, Nat.reduceMul, Nat.reduceSub, reduceCtorEq, ↓reduceIte]) (by simp) fun hb hbL => ?_
  clear hb hbL
  have hw0 : IntKind.i64.wrap ((l.length : Int) - 1) = (l.length : Int) - 1 := wrap64_id (by omega) (by omega)
  refine walkGF (And.intro @bA_len hw0) ?_
  refine VC.loop (ι := {p : Nat × List UInt8 // p.2.length = l.length ∧ 2 * p.1 ≤ l.length ∧ ∀ k, k < l.length → p.2[k]? = if k < p.1 ∨ l.length ≤ k + p.1 then l[l.length - 1 - k]? else l[k]?})
    (fun p => [(0, .row 1000000 l.length), (2, .c (.v (.int .i64 p.1.1))), (3, .c (.v (.int .i64 ((l.length : Int) - 1 - (p.1.1 : Int)))))]) (fun p => [(1000000, ⟨true, 5, 1, bA p.1.2⟩)]) 0 (fun p => l.length - p.1.1)
    ⟨(0, l), rfl, by simp, fun k hk => by simp only []; rw [if_neg (by omega)]⟩ ?_ ?_
  · simp only [bA_len, bA_sc, Weak, eq_self, used_is, sc_any, sc_c, sc_pp, sc_ref, sc_row, sc_agg, sc_fn, ScL, some_imp, List.forall_mem_map, go_sem, Int.reduceBEq, Int.reduceLE, Int.reduceLT, Int.reduceNeg, Nat.reduceAdd, Nat.reduceEqDiff, Nat.reduceLT, Nat.reduceLeDiff, Nat.reduceMul, Nat.reduceSub, reduceCtorEq, ↓reduceIte]
    simp
  rintro ⟨⟨i, c⟩, hcl, hi, hk⟩
  simp only [] at hcl hi hk ⊢
  refine walkGF (@bA_len) ?_
  refine VC.cond (by rfl) (by trivial) (fun hc => ?_) (fun hc => ?_)
  · have hij : (i : Int) < (l.length : Int) - 1 - (i : Int) := by simpa using hc
    obtain ⟨j, hj⟩ : ∃ j : Nat, (l.length : Int) - 1 - (i : Int) = (j : Int) := ⟨l.length - 1 - i, by omega⟩
    obtain ⟨x, hx⟩ : ∃ x, c[i]? = some x := ⟨c[i]'(by omega), List.getElem?_eq_getElem _⟩
    obtain ⟨y, hy⟩ : ∃ y, c[j]? = some y := ⟨c[j]'(by omega), List.getElem?_eq_getElem _⟩
    have hx1 := bA_at hx
    have hy1 := bA_at hy
    have hy2 : ((bA c).set i [AV.c (.v (.int .u8 (y.toNat : Int)))])[j]? = some [AV.c (.v (.int .u8 (y.toNat : Int)))] := by
      rw [List.getElem?_set_ne (by omega)]; exact hy1
    have hw1 : IntKind.i64.wrap ((i : Int) + 1) = (i : Int) + 1 := wrap64_id (by omega) (by omega)
    have hw2 : IntKind.i64.wrap ((j : Int) - 1) = (j : Int) - 1 := wrap64_id (by omega) (by omega)
    rw [hj]
    (repeat (first | refine pass ?_ | refine VC.region (by rfl) (by rfl) ?_ | (refine AO.step fun K hK => ?_; simp only [bA_len, hx1, hy1, hy2, hw1, hw2, hcl, List.length_set, go_sem, Int.reduceBEq, Int.reduceLE, Int.reduceLT, Int.reduceNeg, Nat.reduceAdd, Nat.reduceEqDiff, Nat.reduceLT, Nat.reduceLeDiff, Nat.reduceMul, Nat.reduceSub, reduceCtorEq, ↓reduceIte]; (first | refine gsel_skip ?_ | refine gsel_go ?_ | skip); (first | refine hK _ _ _ ?_ | refine ⟨by first | omega | exact ⟨_, rfl, rfl⟩ | exact fun _ => ⟨_, rfl, rfl⟩ | (intro h; simp only [bA_len, hx1, hy1, hy2, hw1, hw2, hcl, List.length_set, h, true_and]; omega) | (clear hK; intro h; simp_all), hK _ _ _ ?_⟩); clear hK K) | refine VC.draw mixP (by rfl) (by rfl) ?_ | refine ⟨okd_of (by kernel_rfl), ?_⟩ | refine BQ.other (by decide) ?_ | refine VC.seq ?_ | refine AO.nil ?_ | refine VC.block ?_))
    refine .next ⟨(i + 1, (c.set i y).set j x), by simpa using hcl, by simp only []; omega, fun k hkl => ?_⟩ ?_ (by simp only []; omega)
    · simp only []
      have hki := hk i (by omega)
      have hkj := hk j (by omega)
      rw [if_neg (by omega)] at hki hkj
      rw [List.getElem?_set, List.getElem?_set]
      by_cases h1 : j = k
      · subst h1
        rw [if_pos rfl, if_pos (by simp; omega), if_pos (by omega), ← hx, hki]
        congr 1
        omega
      · rw [if_neg h1]
        by_cases h2 : i = k
        · subst h2
          rw [if_pos rfl, if_pos (by omega), if_pos (by omega), ← hy, hkj]
          congr 1
          omega
        · rw [if_neg h2, hk k hkl]
          by_cases h3 : k < i ∨ l.length ≤ k + i
          · rw [if_pos h3, if_pos (by omega)]
          · rw [if_neg h3, if_neg (by omega)]
    · simp only [bA_len, bA_sc, bA_set, List.length_set, Weak, eq_self, used_is, sc_any, sc_c, sc_pp, sc_ref, sc_row, sc_agg, sc_fn, ScL, some_imp, List.forall_mem_map, go_sem, Int.reduceBEq, Int.reduceLE, Int.reduceLT, Int.reduceNeg, Nat.reduceAdd, Nat.reduceEqDiff, Nat.reduceLT, Nat.reduceLeDiff, Nat.reduceMul, Nat.reduceSub, reduceCtorEq, ↓reduceIte]
      exact ⟨⟨cI (by omega), cI (by omega)⟩, by omega⟩
  · have hij : ¬ (i : Int) < (l.length : Int) - 1 - (i : Int) := by simpa using hc
    have hfin : c = l.reverse := by
      apply List.ext_getElem?
      intro k
      by_cases hkl : k < l.length
      · rw [hk k hkl, List.getElem?_reverse hkl]
        by_cases h3 : k < i ∨ l.length ≤ k + i
        · rw [if_pos h3]
        · rw [if_neg h3]; congr 1; omega
      · rw [List.getElem?_eq_none (by omega), List.getElem?_eq_none (by simp; omega)]
    subst hfin
    refine walkG ?_
    refine ⟨by first | exact .inr rfl | exact .inl rfl, ?_⟩; rw [Tryz.results22]; simp only [bA_ren, resOk, resV, go_sem, Int.reduceBEq, Int.reduceLE, Int.reduceLT, Int.reduceNeg, Nat.reduceAdd, Nat.reduceEqDiff, Nat.reduceLT, Nat.reduceLeDiff, Nat.reduceMul, Nat.reduceSub, reduceCtorEq, ↓reduceIte]

/-- A number's digits. -/
def digs (u : Nat) : List UInt8 := if h : u < 10 then [UInt8.ofNat (48 + u)] else digs (u / 10) ++ [UInt8.ofNat (48 + u % 10)]
theorem digs_lt {u : Nat} (h : u < 10) : digs u = [UInt8.ofNat (48 + u)] := by rw [digs, dif_pos h]
theorem digs_ge {u : Nat} (h : ¬ u < 10) : digs u = digs (u / 10) ++ [UInt8.ofNat (48 + u % 10)] := by rw [digs, dif_neg h]
theorem digs_len : ∀ (k u : Nat), u < 10 ^ (k + 1) → (digs u).length ≤ k + 1
  | 0, u, h => by rw [digs_lt (by omega)]; simp
  | k + 1, u, h => by
    by_cases h1 : u < 10
    · rw [digs_lt h1]; simp
    · rw [digs_ge h1]
      have := digs_len k (u / 10) (by rw [Nat.pow_succ] at h; omega)
      simp
      omega
/-- A number as a text. -/
def mNumb (n : Int) : List UInt8 := (if n < 0 then [45] else []) ++ digs n.natAbs
theorem numb_digit (u : Nat) : IntKind.u8.wrap (IntKind.u64.wrap (48 + ((u % 10 : Nat) : Int))) = ((UInt8.ofNat (48 + u % 10)).toNat : Int) := by
  rw [UInt8.toNat_ofNat', IntWalk.u64_in _ ⟨by omega, by omega⟩, IntWalk.u8_in _ ⟨by omega, by omega⟩]
  omega
set_option maxRecDepth 100000 in
set_option maxHeartbeats 800000 in
theorem number_told (l : List UInt8) (n : Int) (hl : l.length ≤ 1099511620000) (h1 : -9223372036854775808 ≤ n) (h2 : n ≤ 9223372036854775807) :
    ToldM Tryz.prog 12 [.row 1000000 l.length, .c (.v (.int .i64 n))] [bB l] [some (bB (l ++ mNumb n))] (.row 1000000 (l ++ mNumb n).length) := by
  unfold bB
  refine VC.toldM ent_12 [] Tryz.func12 rfl Tryz.ntmps12 (by simp) (by simp only [ bA_len, bA_sc, ScM, zOk, inL, eq_self, used_is, sc_any, sc_c, sc_pp, sc_ref, sc_row, sc_agg, sc_tup, sc_fn, ScL, some_imp, List.forall_mem_map, Nat.le_refl, go_sem, Int.reduceBEq, Int.reduceLE, Int.reduceLT, Int.reduceNeg, Nat.reduceAdd, Nat.reduceEqDiff, Nat.reduceLT, Nat.reduceLeDiff, Nat.reduceMul, Nat.reduceSub, reduceCtorEq, ↓reduceIte]) (by simp only [ bA_len, bA_sc, ScM, zOk, inL, eq_self, used_is, sc_any, sc_c, sc_pp, sc_ref, sc_row, sc_agg, sc_tup, sc_fn, ScL, some_imp, List.forall_mem_map, Nat.le_refl, go_sem, Int.reduceBEq, Int.reduceLE, Int.reduceLT, Int.reduceNeg, Nat.reduceAdd, Nat.reduceEqDiff, Nat.reduceLT, Nat.reduceLeDiff, Nat.reduceMul, Nat.reduceSub, reduceCtorEq, ↓reduceIte]) (by simp only [ bA_len, bA_sc, ScM, zOk, inL, eq_self, used_is, sc_any, sc_c, sc_pp, sc_ref, sc_row, sc_agg, sc_tup, sc_fn, ScL, some_imp, List.forall_mem_map, Nat.le_refl, go_sem, Int.reduceBEq, Int.reduceLE, Int.reduceLT, Int.reduceNeg, Nat.reduceAdd, Nat.reduceEqDiff, Nat.reduceLT, Nat.reduceLeDiff, Nat.reduceMul, Nat.reduceSub, reduceCtorEq, ↓reduceIte]) (by simp only [ bA_len, bA_sc, ScM, zOk, inL, eq_self, used_is, sc_any, sc_c, sc_pp, sc_ref, sc_row, sc_agg, sc_tup, sc_fn, ScL, some_imp, List.forall_mem_map, Nat.le_refl, go_sem, Int.reduceBEq, Int.reduceLE, Int.reduceLT, Int.reduceNeg, Nat.reduceAdd, Nat.reduceEqDiff, Nat.reduceLT, Nat.reduceLeDiff, Nat.reduceMul, Nat.reduceSub, reduceCtorEq, ↓reduceIte]) (by simp) fun hb hbL => ?_
  clear hb hbL
  obtain ⟨u, hu⟩ : ∃ u, u = n.natAbs := ⟨_, rfl⟩
  obtain ⟨p, hp⟩ : ∃ p : List UInt8, p = if n < 0 then [45] else [] := ⟨_, rfl⟩
  have hm : mNumb n = p ++ digs u := by rw [hu, hp]; rfl
  rw [hm]
  refine walkGF (@bA_len) ?_
  have hp1 : p.length ≤ 1 := by rw [hp]; split <;> simp
  have hul : u < 10 ^ 20 := by omega
  have hdl := digs_len 19 u hul
  refine VC.meet [(0, .row 1000000 (l ++ p).length), (5, .c (.v (.int .u64 (u : Int))))] [(1000000, ⟨true, 5, 1, bA (l ++ p)⟩)] 56 ?_ ?_
  · refine VC.cond (by rfl) (by trivial) (fun hc => ?_) (fun hc => ?_)
    · have hn : n < 0 := by simpa using hc
      rw [if_pos hn] at hp
      subst hp
      have hw : IntKind.u64.wrap (0 - IntKind.u64.wrap n) = (u : Int) := by
        rw [IntKind.wrap_u64, IntKind.wrap_u64]
        omega
      refine walkGF (And.intro @bA_len hw) ?_
      refine .normal ?_
      simp only [bA_len, bA_sc, hw, Weak, eq_self, used_is, sc_any, sc_c, sc_pp, sc_ref, sc_row, sc_agg, sc_fn, ScL, some_imp, List.forall_mem_map, go_sem, Int.reduceBEq, Int.reduceLE, Int.reduceLT, Int.reduceNeg, Nat.reduceAdd, Nat.reduceEqDiff, Nat.reduceLT, Nat.reduceLeDiff, Nat.reduceMul, Nat.reduceSub, reduceCtorEq, ↓reduceIte]
      simp [bA]
    · have hn : ¬ n < 0 := by simpa using hc
      rw [if_neg hn] at hp
      subst hp
      have hw : IntKind.u64.wrap n = (u : Int) := by rw [IntWalk.u64_in _ ⟨by omega, by omega⟩]; omega
      refine walkGF (And.intro @bA_len hw) ?_
      refine .normal ?_
      simp only [bA_len, bA_sc, hw, List.append_nil, Nat.le_refl, Weak, eq_self, used_is, sc_any, sc_c, sc_pp, sc_ref, sc_row, sc_agg, sc_fn, ScL, some_imp, List.forall_mem_map, go_sem, Int.reduceBEq, Int.reduceLE, Int.reduceLT, Int.reduceNeg, Nat.reduceAdd, Nat.reduceEqDiff, Nat.reduceLT, Nat.reduceLeDiff, Nat.reduceMul, Nat.reduceSub, reduceCtorEq, ↓reduceIte]
  (refine VC.seq ?_; (first | refine VC.region (by rfl) (by rfl) ?_ | refine VC.draw mixP (by rfl) (by rfl) ?_); (repeat (refine AO.step fun K hK => ?_; simp only [go_sem, Int.reduceBEq, Int.reduceLE, Int.reduceLT, Int.reduceNeg, Nat.reduceAdd, Nat.reduceEqDiff, Nat.reduceLT, Nat.reduceLeDiff, Nat.reduceMul, Nat.reduceSub, reduceCtorEq, ↓reduceIte]; (first | refine gsel_skip ?_ | refine gsel_go ?_ | skip); (first | refine hK _ _ _ ?_ | refine ⟨by first | omega | exact ⟨_, rfl, rfl⟩ | exact fun _ => ⟨_, rfl, rfl⟩ | (intro h; simp only [h, true_and]; omega) | (clear hK; intro h; simp_all), hK _ _ _ ?_⟩); clear hK K)); refine AO.nil ?_; first | refine SQ.normal ?_ | refine ⟨okd_of (by kernel_rfl), SQ.normal ?_⟩)
  refine VC.nil 6 5 1 (by rfl) (by trivial) (by rfl) ?_
  refine VC.seq (VC.block ?_)
  refine VC.loop (ι := {q : Nat × List UInt8 // q.1 ≤ u ∧ digs u = digs q.1 ++ q.2.reverse}) (fun q => [(0, .row 1000000 (l ++ p).length), (5, .c (.v (.int .u64 (q.1.1 : Int)))), (6, .row 64 q.1.2.length)])
    (fun q => [(1000000, ⟨true, 5, 1, bA (l ++ p)⟩), (64, ⟨true, 5, 1, bA q.1.2⟩)]) 72 (fun q => q.1.1) ⟨(u, []), Nat.le_refl _, by simp⟩ ?_ ?_
  · simp only [bA_len, bA_sc, Weak, eq_self, used_is, sc_any, sc_c, sc_pp, sc_ref, sc_row, sc_agg, sc_fn, ScL, some_imp, List.forall_mem_map, go_sem, Int.reduceBEq, Int.reduceLE, Int.reduceLT, Int.reduceNeg, Nat.reduceAdd, Nat.reduceEqDiff, Nat.reduceLT, Nat.reduceLeDiff, Nat.reduceMul, Nat.reduceSub, reduceCtorEq, ↓reduceIte]
    simp [bA_nil]
  rintro ⟨⟨v, ds⟩, hv, hd⟩
  simp only [] at hv hd ⊢
  have hdl2 : ds.length ≤ 20 := by rw [hd] at hdl; simp at hdl; omega
  have hdig : IntKind.u8.wrap (IntKind.u64.wrap (48 + ((v : Int).tmod 10))) = ((UInt8.ofNat (48 + v % 10)).toNat : Int) := by
    rw [← numb_digit v]
    rfl
  refine walkGF (@bA_len) ?_
  refine VC.cond (by rfl) (by trivial) (fun hc => ?_) (fun hc => ?_)
  · have hv9 : ¬ v < 10 := by simp at hc; omega
    have hq : IntKind.u64.wrap ((v : Int).tdiv 10) = ((v / 10 : Nat) : Int) := by rw [IntWalk.u64_quo _ _ ⟨by omega, by omega, by omega⟩]; omega
    refine walkGF (And.intro @bA_len (And.intro hdig hq)) ?_
    refine .next ⟨(v / 10, ds ++ [UInt8.ofNat (48 + v % 10)]), by simp only []; omega, by simp only []; rw [hd, digs_ge hv9]; simp⟩ ?_ (by simp only []; omega)
    simp only [bA_len, bA_sc, bA_one, Weak, eq_self, used_is, sc_any, sc_c, sc_pp, sc_ref, sc_row, sc_agg, sc_fn, ScL, some_imp, List.forall_mem_map, go_sem, Int.reduceBEq, Int.reduceLE, Int.reduceLT, Int.reduceNeg, Nat.reduceAdd, Nat.reduceEqDiff, Nat.reduceLT, Nat.reduceLeDiff, Nat.reduceMul, Nat.reduceSub, reduceCtorEq, ↓reduceIte]
    simp
  · have hv9 : v < 10 := by simp at hc; omega
    have hvm : IntKind.u8.wrap (IntKind.u64.wrap (48 + (v : Int))) = ((UInt8.ofNat (48 + v)).toNat : Int) := by
      have := numb_digit v
      rwa [Nat.mod_eq_of_lt hv9] at this
    obtain ⟨es, hes⟩ : ∃ es, es = ds ++ [UInt8.ofNat (48 + v)] := ⟨_, rfl⟩
    have hel : ds.length + 1 = es.length := by rw [hes]; simp
    have hbo : bA ds ++ [[AV.c (.v (.int .u8 ((UInt8.ofNat (48 + v)).toNat : Int)))]] = bA es := by rw [hes, bA_one]
    have hds : digs u = es.reverse := by rw [hd, hes, digs_lt hv9]; simp
    have hrl : es.length ≤ 20 := by rw [hds] at hdl; simpa using hdl
    refine walkGF (And.intro @bA_len (And.intro hvm (And.intro hel hbo))) ?_
    have hlp : (l ++ p).length ≤ 1099511620001 := by simp; omega
    ((refine AO.step fun K hK => ?_; simp only [go_sem, Int.reduceBEq, Int.reduceLE, Int.reduceLT, Int.reduceNeg, Nat.reduceAdd, Nat.reduceEqDiff, Nat.reduceLT, Nat.reduceLeDiff, Nat.reduceMul, Nat.reduceSub, reduceCtorEq, ↓reduceIte, bA_len, bB, bA_ren, hel, hbo]; (first | refine gsel_go ?_ | skip)); refine .inr (.inr (.inl ⟨?vy1, [64], ?va1, ?vl1, ?vm1, ?cond1, ?cont1⟩)); (case cond1 => ((repeat' apply And.intro) <;> (try ((with_reducible show ToldM _ _ _ _ _ _); exact reverse_told es (by omega)))); (all_goals first | trivial | (simp only [bA_len, bB, bA_ren, hel, hbo, go_sem, Int.reduceBEq, Int.reduceLE, Int.reduceLT, Int.reduceNeg, Nat.reduceAdd, Nat.reduceEqDiff, Nat.reduceLT, Nat.reduceLeDiff, Nat.reduceMul, Nat.reduceSub, reduceCtorEq, ↓reduceIte]; done) | (simp; done) | rfl)); (first | refine hK _ _ _ ?_ | (simp only [bA_len, bB, bA_ren, hel, hbo, go_sem, Int.reduceBEq, Int.reduceLE, Int.reduceLT, Int.reduceNeg, Nat.reduceAdd, Nat.reduceEqDiff, Nat.reduceLT, Nat.reduceLeDiff, Nat.reduceMul, Nat.reduceSub, reduceCtorEq, ↓reduceIte]; first | refine hK _ _ _ ?_ | refine ⟨rfl, hK _ _ _ ?_⟩)); clear hK K)
    (repeat (first | refine pass ?_ | refine VC.region (by rfl) (by rfl) ?_ | (refine AO.step fun K hK => ?_; simp only [bA_len, bB, bA_ren, List.length_reverse, go_sem, Int.reduceBEq, Int.reduceLE, Int.reduceLT, Int.reduceNeg, Nat.reduceAdd, Nat.reduceEqDiff, Nat.reduceLT, Nat.reduceLeDiff, Nat.reduceMul, Nat.reduceSub, reduceCtorEq, ↓reduceIte]; (first | refine gsel_skip ?_ | refine gsel_go ?_ | skip); (first | refine hK _ _ _ ?_ | refine ⟨by first | omega | exact ⟨_, rfl, rfl⟩ | exact fun _ => ⟨_, rfl, rfl⟩ | (intro h; simp only [bA_len, bB, bA_ren, List.length_reverse, h, true_and]; omega) | (clear hK; intro h; simp_all), hK _ _ _ ?_⟩); clear hK K) | refine VC.draw mixP (by rfl) (by rfl) ?_ | refine ⟨okd_of (by kernel_rfl), ?_⟩ | refine BQ.other (by decide) ?_ | refine VC.seq ?_ | refine AO.nil ?_ | refine VC.block ?_))
    have hfin : l ++ p ++ es.reverse = l ++ (p ++ digs u) := by rw [hds]; simp
    have hfl : (l ++ p).length + es.length = (l ++ (p ++ digs u)).length := by rw [hds]; simp; omega
    refine ⟨by first | exact .inr rfl | exact .inl rfl, ?_⟩; rw [Tryz.results12]; simp only [bA_ren, bA_app, hfin, hfl, resOk, resV, go_sem, Int.reduceBEq, Int.reduceLE, Int.reduceLT, Int.reduceNeg, Nat.reduceAdd, Nat.reduceEqDiff, Nat.reduceLT, Nat.reduceLeDiff, Nat.reduceMul, Nat.reduceSub, reduceCtorEq, ↓reduceIte]
    exact .keepW rfl

end Go.Proofs.YticfioblapjkmaaGreat
