/- jprint's printer: put, tree and Print, as contracts over plain values (written by gen_pr.py). -/
import Derived.Test.YticfioblapjkmaaGreatBu
import Derived.Test.YticfioblapjkmaaGreatRi
import Derived.Test.YticfioblapjkmaaGreatQn
namespace Go.Proofs.YticfioblapjkmaaGreat
open Go.RowKit
set_option linter.unusedVariables false
set_option linter.unusedSimpArgs false
attribute [local go_sem] opx opE ev okx gcond bnd okO AV.get AV.okb cAV upd_at putd_some putd_none wrs_nil wrs_cons look_nil look_cons st argT_at bpick_and bpick_or bpick_true bpick_false binV binI binS binVOk binOk isShift binSOk unV unVOk loadV loadP cellsA zeroA Blkd.len setE grown moreA moreR moreOk eqRes pv fillA fillE putSeg AV.cellish AV.pureL AV.pureB lentL_is ex_some AV.ren AV.renL renL_c Blkd.ren rho wrM renN lentOk rhoE keepM endOk tyA_2 tyA_3 tyA_4 tyA_5 tyA_6 tyA_7 tyA_8 tyA_9 tyA_10 tyA_11 tyA_12 tyA_13 tyA_14 tyA_15 tyA_16 tyA_17 tyA_18 tyA_19 tyA_21 tyA_22 tyA_23 tyA_24 tyA_25 tyA_28 tyA_29 tyA_38 tyA_39 tyA_40 tyA_41 tyA_42 tyA_43 tyA_49 tyA_50 tyA_51 tyA_52 tyA_53 tyA_57 tyA_62 tyA_76 tyA_87 tyA_88 tyA_89 tyA_100 tyA_101 tyA_102 tyA_106 tyA_119 tyA_128 tyA_130 tyA_132 tyA_137 tyA_141 tyA_146 tyA_149 tyA_150 tyA_151 tyA_152 tyA_153 tyA_154 tyA_155 tyA_157 tyA_158 Option.map_some Option.map_none Option.getD_some Option.getD_none Option.bind_some Option.bind_none List.getElem?_cons_zero List.getElem?_cons_succ List.getElem?_nil List.getElem?_toArray List.length_cons List.length_nil List.length_map List.forall_mem_map List.map_cons List.map_nil List.drop_zero List.drop_succ_cons List.drop_nil List.take_zero List.take_succ_cons List.take_nil List.mem_cons List.not_mem_nil or_false forall_eq_or_imp forall_eq List.set_cons_zero List.set_cons_succ List.cons_append List.nil_append List.append_nil List.foldl_cons List.foldl_nil List.replicate_succ List.replicate_zero List.all_cons List.all_nil if_true if_false Bool.false_eq_true ne_eq not_false_eq_true not_true_eq_false true_and and_true and_self true_implies imp_self implies_true forall_const beq_self_eq_true Bool.and_true Bool.true_and Bool.and_false Bool.false_and Bool.or_true Bool.true_or Bool.or_false Bool.false_or Bool.not_true Bool.not_false Bool.not_eq_eq_eq_not intKindOf Value.oneCell' Int.toNat_natCast beq_true beq_false Bool.not_eq_true false_implies false_or true_or or_true Nat.zero_add Nat.add_zero decide_true decide_false Int.cast_ofNat_Int Int.toNat_zero Int.toNat_one eq_self

/-- The printer's state: has its builder been written; what is in it; is the text too long? -/
structure PS where
  u : Bool
  out : List UInt8
  ov : Bool
def PS.put (p : PS) (s : List UInt8) : PS := if p.ov = true ∨ 20000 < p.out.length + s.length then ⟨p.u, p.out, true⟩ else ⟨true, p.out ++ s, false⟩
def PS.ok (p : PS) : Prop := p.out.length ≤ 20000
theorem PS.put_ok {p : PS} (h : p.ok) (s : List UInt8) : (p.put s).ok := by
  unfold PS.put
  split
  · exact h
  · unfold PS.ok; simp only [List.length_append]; omega
def pcomma (p : PS) (i : Nat) : PS := if 0 < i then p.put [44] else p
def pkey (ko : Option (List (List UInt8))) (p : PS) (i : Nat) : PS := match ko with | none => p | some ks => p.put (mQuote ((ks[i]?).getD []) ++ [58])
mutual
/-- A tree is put. -/
def pTree (p : PS) : JT → PS
  | .mk k n s ks xs => if k = 1 then p.put [110, 117, 108, 108] else if k = 2 then (if n = 1 then p.put [116, 114, 117, 101] else p.put [102, 97, 108, 115, 101]) else if k = 3 then p.put (mNumb n) else if k = 4 then p.put (mQuote s)
    else if k = 5 then (pKids none (p.put [91]) 0 xs).put [93] else (pKids (some ks) (p.put [123]) 0 xs).put [125]
def pKids (ko : Option (List (List UInt8))) (p : PS) (i : Nat) : List JT → PS
  | [] => p
  | x :: xs => pKids ko (pTree (pkey ko (pcomma p i) i) x) (i + 1) xs
end
theorem pcomma_ok {p : PS} (h : p.ok) (i : Nat) : (pcomma p i).ok := by
  unfold pcomma
  split
  · exact PS.put_ok h _
  · exact h
theorem pkey_ok {p : PS} (h : p.ok) (ko : Option (List (List UInt8))) (i : Nat) : (pkey ko p i).ok := by
  cases ko with
  | none => exact h
  | some ks => exact PS.put_ok h _
mutual
theorem pTree_ok {p : PS} (h : p.ok) : ∀ t : JT, (pTree p t).ok
  | .mk k n s ks xs => by
    rw [pTree]
    repeat' split
    all_goals first
      | exact PS.put_ok h _
      | exact PS.put_ok (pKids_ok (PS.put_ok h _) _ _ xs) _
theorem pKids_ok {p : PS} (h : p.ok) (ko : Option (List (List UInt8))) (i : Nat) : ∀ xs : List JT, (pKids ko p i xs).ok
  | [] => h
  | x :: xs => by
    rw [pKids]
    exact pKids_ok (pTree_ok (pkey_ok (pcomma_ok h i) ko i) x) ko (i + 1) xs
end
theorem prA_sc {used : Nat → Prop} {h : Nat → Option Blkd} (u : Bool) : Sc used h (prA u) = (u = true → used 1000000 ∧ ∀ B, h 1000000 = some B → 1 ≤ B.len) := by
  cases u
  · exact propext ⟨fun _ h => by simp at h, fun _ => .c⟩
  · exact propext ⟨fun h _ => by cases h with | ref hu hn => exact ⟨hu, hn⟩, fun h => .ref (h rfl).1 (h rfl).2⟩
theorem prA_ce (u : Bool) : (prA u).cellish = true := by cases u <;> rfl
theorem prA_r2 (u : Bool) (n : Nat) : (prA u).ren (rho [1000000, 1000001] n) = prA u := by cases u <;> rfl
theorem prA_r3 (u : Bool) (n k : Nat) : (prA u).ren (rho [1000000, 1000001, k] n) = prA u := by cases u <;> rfl
theorem prA_e2 (u : Bool) : (prA u).ren (rhoE 2 []) = prA u := by cases u <;> rfl
theorem prA_e3 (u : Bool) : (prA u).ren (rhoE 3 []) = prA u := by cases u <;> rfl
/-- A variable that holds the printer's address. -/
def boxB : Blkd := ⟨false, 38, 1, [[.ref 1000000 1 0 0]]⟩

set_option maxRecDepth 100000 in
set_option maxHeartbeats 1600000 in
theorem put_told (p : PS) (s : List UInt8) (hp : p.ok) (hs : s.length ≤ 100000000000) : ToldM Tryz.prog 24 [.ref 1000000 1 0 0, .c (.v (.string (str s)))] [prB p.u p.out.length p.ov, bB p.out] [some (prB (p.put s).u (p.put s).out.length (p.put s).ov), some (bB (p.put s).out)] (.tup []) := by
  rcases p with ⟨u, l, ov⟩
  simp only [PS.ok] at hp ⊢
  have h1 := blen_told u l ov
  have h2 := bwrite_told u l s false (by omega)
  simp only [bB, prB, str] at h1 h2 ⊢
  have hw0 : IntKind.i64.wrap (20000 - (l.length : Int)) = 20000 - (l.length : Int) := wrap64_id (by omega) (by omega)
  have hsz := bsz s
  cases ov with
  | true =>
    have hq : (PS.mk u l true).put s = ⟨u, l, true⟩ := by unfold PS.put; rw [if_pos (.inl rfl)]
    rw [hq]
    refine VC.toldM ent_24 [] Tryz.func24 rfl Tryz.ntmps24 (by simp) (by simp only [ bA_len, bA_sc, prA_sc, prA_ce, ScM, zOk, inL, eq_self, used_is, sc_any, sc_c, sc_pp, sc_ref, sc_row, sc_agg, sc_tup, sc_fn, ScL, some_imp, List.forall_mem_map, Nat.le_refl, go_sem, Int.reduceBEq, Int.reduceLE, Int.reduceLT, Int.reduceNeg, Nat.reduceAdd, Nat.reduceEqDiff, Nat.reduceLT, Nat.reduceLeDiff, Nat.reduceMul, Nat.reduceSub, reduceCtorEq, ↓reduceIte]) (by simp only [ bA_len, bA_sc, prA_sc, prA_ce, ScM, zOk, inL, eq_self, used_is, sc_any, sc_c, sc_pp, sc_ref, sc_row, sc_agg, sc_tup, sc_fn, ScL, some_imp, List.forall_mem_map, Nat.le_refl, go_sem, Int.reduceBEq, Int.reduceLE, Int.reduceLT, Int.reduceNeg, Nat.reduceAdd, Nat.reduceEqDiff, Nat.reduceLT, Nat.reduceLeDiff, Nat.reduceMul, Nat.reduceSub, reduceCtorEq, ↓reduceIte]) (by simp only [ bA_len, bA_sc, prA_sc, prA_ce, ScM, zOk, inL, eq_self, used_is, sc_any, sc_c, sc_pp, sc_ref, sc_row, sc_agg, sc_tup, sc_fn, ScL, some_imp, List.forall_mem_map, Nat.le_refl, go_sem, Int.reduceBEq, Int.reduceLE, Int.reduceLT, Int.reduceNeg, Nat.reduceAdd, Nat.reduceEqDiff, Nat.reduceLT, Nat.reduceLeDiff, Nat.reduceMul, Nat.reduceSub, reduceCtorEq, ↓reduceIte]) (by simp only [ bA_len, bA_sc, prA_sc, prA_ce, ScM, zOk, inL, eq_self, used_is, sc_any, sc_c, sc_pp, sc_ref, sc_row, sc_agg, sc_tup, sc_fn, ScL, some_imp, List.forall_mem_map, Nat.le_refl, go_sem, Int.reduceBEq, Int.reduceLE, Int.reduceLT, Int.reduceNeg, Nat.reduceAdd, Nat.reduceEqDiff, Nat.reduceLT, Nat.reduceLeDiff, Nat.reduceMul, Nat.reduceSub, reduceCtorEq, ↓reduceIte]) (by simp) fun hb hbL => ?_
    clear hb hbL
    refine walkGF (And.intro @bA_len (And.intro hsz @prA_ce)) ?_
    refine VC.cond (by rfl) (by trivial) (fun hc => ?_) (fun hc => ?_)
    · exact absurd hc (by decide)
    · refine walkG ?_
      refine ⟨by first | exact .inr rfl | exact .inl rfl, ?_⟩; rw [Tryz.results24]; simp only [bA_ren, prA_e2, resOk, resV, go_sem, Int.reduceBEq, Int.reduceLE, Int.reduceLT, Int.reduceNeg, Nat.reduceAdd, Nat.reduceEqDiff, Nat.reduceLT, Nat.reduceLeDiff, Nat.reduceMul, Nat.reduceSub, reduceCtorEq, ↓reduceIte]
  | false =>
    refine VC.toldM ent_24 [] Tryz.func24 rfl Tryz.ntmps24 (by simp) (by simp only [ bA_len, bA_sc, prA_sc, prA_ce, ScM, zOk, inL, eq_self, used_is, sc_any, sc_c, sc_pp, sc_ref, sc_row, sc_agg, sc_tup, sc_fn, ScL, some_imp, List.forall_mem_map, Nat.le_refl, go_sem, Int.reduceBEq, Int.reduceLE, Int.reduceLT, Int.reduceNeg, Nat.reduceAdd, Nat.reduceEqDiff, Nat.reduceLT, Nat.reduceLeDiff, Nat.reduceMul, Nat.reduceSub, reduceCtorEq, ↓reduceIte]) (by simp only [ bA_len, bA_sc, prA_sc, prA_ce, ScM, zOk, inL, eq_self, used_is, sc_any, sc_c, sc_pp, sc_ref, sc_row, sc_agg, sc_tup, sc_fn, ScL, some_imp, List.forall_mem_map, Nat.le_refl, go_sem, Int.reduceBEq, Int.reduceLE, Int.reduceLT, Int.reduceNeg, Nat.reduceAdd, Nat.reduceEqDiff, Nat.reduceLT, Nat.reduceLeDiff, Nat.reduceMul, Nat.reduceSub, reduceCtorEq, ↓reduceIte]) (by simp only [ bA_len, bA_sc, prA_sc, prA_ce, ScM, zOk, inL, eq_self, used_is, sc_any, sc_c, sc_pp, sc_ref, sc_row, sc_agg, sc_tup, sc_fn, ScL, some_imp, List.forall_mem_map, Nat.le_refl, go_sem, Int.reduceBEq, Int.reduceLE, Int.reduceLT, Int.reduceNeg, Nat.reduceAdd, Nat.reduceEqDiff, Nat.reduceLT, Nat.reduceLeDiff, Nat.reduceMul, Nat.reduceSub, reduceCtorEq, ↓reduceIte]) (by simp only [ bA_len, bA_sc, prA_sc, prA_ce, ScM, zOk, inL, eq_self, used_is, sc_any, sc_c, sc_pp, sc_ref, sc_row, sc_agg, sc_tup, sc_fn, ScL, some_imp, List.forall_mem_map, Nat.le_refl, go_sem, Int.reduceBEq, Int.reduceLE, Int.reduceLT, Int.reduceNeg, Nat.reduceAdd, Nat.reduceEqDiff, Nat.reduceLT, Nat.reduceLeDiff, Nat.reduceMul, Nat.reduceSub, reduceCtorEq, ↓reduceIte]) (by simp) fun hb hbL => ?_
    clear hb hbL
    refine walkGF (And.intro @bA_len (And.intro hsz @prA_ce)) ?_
    ((refine AO.step fun K hK => ?_; simp only [go_sem, Int.reduceBEq, Int.reduceLE, Int.reduceLT, Int.reduceNeg, Nat.reduceAdd, Nat.reduceEqDiff, Nat.reduceLT, Nat.reduceLeDiff, Nat.reduceMul, Nat.reduceSub, reduceCtorEq, ↓reduceIte, bA_len, hsz, bA_ren, prA_r2]; (first | refine gsel_go ?_ | skip)); refine .inr (.inr (.inl ⟨?vy1, [1000000, 1000001], ?va1, ?vl1, ?vm1, ?cond1, ?cont1⟩)); (case cond1 => ((repeat' apply And.intro) <;> (try ((with_reducible show ToldM _ _ _ _ _ _); exact h1))); (all_goals first | trivial | (simp only [bA_len, hsz, bA_ren, prA_r2, go_sem, Int.reduceBEq, Int.reduceLE, Int.reduceLT, Int.reduceNeg, Nat.reduceAdd, Nat.reduceEqDiff, Nat.reduceLT, Nat.reduceLeDiff, Nat.reduceMul, Nat.reduceSub, reduceCtorEq, ↓reduceIte]; done) | (simp; done) | rfl)); (first | refine hK _ _ _ ?_ | (simp only [bA_len, hsz, bA_ren, prA_r2, go_sem, Int.reduceBEq, Int.reduceLE, Int.reduceLT, Int.reduceNeg, Nat.reduceAdd, Nat.reduceEqDiff, Nat.reduceLT, Nat.reduceLeDiff, Nat.reduceMul, Nat.reduceSub, reduceCtorEq, ↓reduceIte]; first | refine hK _ _ _ ?_ | refine ⟨rfl, hK _ _ _ ?_⟩)); clear hK K)
    refine walkGF (And.intro @bA_len (And.intro hsz (And.intro hw0 (And.intro @prA_ce (And.intro @bA_ren @prA_r2))))) ?_
    refine VC.cond (by rfl) (by trivial) (fun hc => ?_) (fun hc => ?_)
    · have hle : ¬ 20000 < l.length + s.length := by simp at hc; omega
      have hd : decide ((s.length : Int) > 20000 - (l.length : Int)) = false := by simp; omega
      have hq : (PS.mk u l false).put s = ⟨true, l ++ s, false⟩ := by unfold PS.put; rw [if_neg (by simp; omega)]
      rw [hq]
      refine walkGF (And.intro @bA_len (And.intro hsz (And.intro @prA_ce (And.intro @bA_ren (And.intro @prA_r2 hd))))) ?_
      ((refine AO.step fun K hK => ?_; simp only [go_sem, Int.reduceBEq, Int.reduceLE, Int.reduceLT, Int.reduceNeg, Nat.reduceAdd, Nat.reduceEqDiff, Nat.reduceLT, Nat.reduceLeDiff, Nat.reduceMul, Nat.reduceSub, reduceCtorEq, ↓reduceIte, bA_len, hsz, bA_ren, prA_r2, hd]; (first | refine gsel_go ?_ | skip)); refine .inr (.inr (.inl ⟨?vy2, [1000000, 1000001], ?va2, ?vl2, ?vm2, ?cond2, ?cont2⟩)); (case cond2 => ((repeat' apply And.intro) <;> (try ((with_reducible show ToldM _ _ _ _ _ _); exact h2))); (all_goals first | trivial | (simp only [bA_len, hsz, bA_ren, prA_r2, hd, go_sem, Int.reduceBEq, Int.reduceLE, Int.reduceLT, Int.reduceNeg, Nat.reduceAdd, Nat.reduceEqDiff, Nat.reduceLT, Nat.reduceLeDiff, Nat.reduceMul, Nat.reduceSub, reduceCtorEq, ↓reduceIte]; done) | (simp; done) | rfl)); (first | refine hK _ _ _ ?_ | (simp only [bA_len, hsz, bA_ren, prA_r2, hd, go_sem, Int.reduceBEq, Int.reduceLE, Int.reduceLT, Int.reduceNeg, Nat.reduceAdd, Nat.reduceEqDiff, Nat.reduceLT, Nat.reduceLeDiff, Nat.reduceMul, Nat.reduceSub, reduceCtorEq, ↓reduceIte]; first | refine hK _ _ _ ?_ | refine ⟨rfl, hK _ _ _ ?_⟩)); clear hK K)
      refine walkGF (And.intro @bA_len (And.intro hsz (And.intro @prA_ce (And.intro @bA_ren @prA_r2)))) ?_
      refine ⟨by first | exact .inr rfl | exact .inl rfl, ?_⟩; rw [Tryz.results24]; simp only [bA_ren, prA_e2, prA_r2, resOk, resV, go_sem, Int.reduceBEq, Int.reduceLE, Int.reduceLT, Int.reduceNeg, Nat.reduceAdd, Nat.reduceEqDiff, Nat.reduceLT, Nat.reduceLeDiff, Nat.reduceMul, Nat.reduceSub, reduceCtorEq, ↓reduceIte]
    · have hle : 20000 < l.length + s.length := by simp at hc; omega
      have hd : decide ((s.length : Int) > 20000 - (l.length : Int)) = true := by simp; omega
      have hq : (PS.mk u l false).put s = ⟨u, l, true⟩ := by unfold PS.put; rw [if_pos (.inr hle)]
      rw [hq]
      refine walkG ?_
      refine ⟨by first | exact .inr rfl | exact .inl rfl, ?_⟩; rw [Tryz.results24]; simp only [bA_ren, prA_e2, prA_r2, hd, resOk, resV, go_sem, Int.reduceBEq, Int.reduceLE, Int.reduceLT, Int.reduceNeg, Nat.reduceAdd, Nat.reduceEqDiff, Nat.reduceLT, Nat.reduceLeDiff, Nat.reduceMul, Nat.reduceSub, reduceCtorEq, ↓reduceIte]

set_option maxRecDepth 100000 in
set_option maxHeartbeats 1600000 in
theorem key2_told (p : PS) (i : Nat) : ToldM Tryz.prog 26 [.c (.v (.int .i64 (i : Int)))] [prB p.u p.out.length p.ov, bB p.out, boxB] [some (prB (pkey none p i).u (pkey none p i).out.length (pkey none p i).ov), some (bB (pkey none p i).out), some boxB] (.tup []) := by
  rw [show pkey none p i = p from rfl]
  simp only [bB, prB, boxB]
  refine VC.toldM ent_26 [] Tryz.func26 rfl Tryz.ntmps26 (by simp) (by simp only [ bA_len, bA_sc, prA_sc, prA_ce, ScM, zOk, inL, eq_self, used_is, sc_any, sc_c, sc_pp, sc_ref, sc_row, sc_agg, sc_tup, sc_fn, ScL, some_imp, List.forall_mem_map, Nat.le_refl, go_sem, Int.reduceBEq, Int.reduceLE, Int.reduceLT, Int.reduceNeg, Nat.reduceAdd, Nat.reduceEqDiff, Nat.reduceLT, Nat.reduceLeDiff, Nat.reduceMul, Nat.reduceSub, reduceCtorEq, ↓reduceIte]) (by simp only [ bA_len, bA_sc, prA_sc, prA_ce, ScM, zOk, inL, eq_self, used_is, sc_any, sc_c, sc_pp, sc_ref, sc_row, sc_agg, sc_tup, sc_fn, ScL, some_imp, List.forall_mem_map, Nat.le_refl, go_sem, Int.reduceBEq, Int.reduceLE, Int.reduceLT, Int.reduceNeg, Nat.reduceAdd, Nat.reduceEqDiff, Nat.reduceLT, Nat.reduceLeDiff, Nat.reduceMul, Nat.reduceSub, reduceCtorEq, ↓reduceIte]) (by simp only [ bA_len, bA_sc, prA_sc, prA_ce, ScM, zOk, inL, eq_self, used_is, sc_any, sc_c, sc_pp, sc_ref, sc_row, sc_agg, sc_tup, sc_fn, ScL, some_imp, List.forall_mem_map, Nat.le_refl, go_sem, Int.reduceBEq, Int.reduceLE, Int.reduceLT, Int.reduceNeg, Nat.reduceAdd, Nat.reduceEqDiff, Nat.reduceLT, Nat.reduceLeDiff, Nat.reduceMul, Nat.reduceSub, reduceCtorEq, ↓reduceIte]) (by simp only [ bA_len, bA_sc, prA_sc, prA_ce, ScM, zOk, inL, eq_self, used_is, sc_any, sc_c, sc_pp, sc_ref, sc_row, sc_agg, sc_tup, sc_fn, ScL, some_imp, List.forall_mem_map, Nat.le_refl, go_sem, Int.reduceBEq, Int.reduceLE, Int.reduceLT, Int.reduceNeg, Nat.reduceAdd, Nat.reduceEqDiff, Nat.reduceLT, Nat.reduceLeDiff, Nat.reduceMul, Nat.reduceSub, reduceCtorEq, ↓reduceIte]) (by simp) fun hb hbL => ?_
  clear hb hbL
  refine walkG ?_
  refine ⟨by first | exact .inr rfl | exact .inl rfl, ?_⟩; rw [Tryz.results26]; simp only [bA_ren, prA_e3, resOk, resV, go_sem, Int.reduceBEq, Int.reduceLE, Int.reduceLT, Int.reduceNeg, Nat.reduceAdd, Nat.reduceEqDiff, Nat.reduceLT, Nat.reduceLeDiff, Nat.reduceMul, Nat.reduceSub, reduceCtorEq, ↓reduceIte]

set_option maxRecDepth 100000 in
set_option maxHeartbeats 1600000 in
theorem key3_told (p : PS) (hp : p.ok) (i : Nat) (k n : Int) (s key : List UInt8) (ks : List (List UInt8)) (xs : List JT) (hi : ks[i]? = some key) (hkl : key.length ≤ 1000000000) :
    ToldM Tryz.prog 27 [.c (.v (.int .i64 (i : Int))), .ref 1000002 1 0 0, .pp (JT.mk k n s ks xs).cells] [prB p.u p.out.length p.ov, bB p.out, boxB]
      [some (prB (pkey (some ks) p i).u (pkey (some ks) p i).out.length (pkey (some ks) p i).ov), some (bB (pkey (some ks) p i).out), some boxB] (.tup []) := by
  have hil := (List.getElem?_eq_some_iff.1 hi).1
  have hq : pkey (some ks) p i = p.put (mQuote key ++ [58]) := by simp [pkey, hi]
  rw [hq]
  obtain ⟨s2, hs2⟩ : ∃ s2, s2 = mQuote key ++ [58] := ⟨_, rfl⟩
  have hql := quote_len key
  have hs2l : s2.length ≤ 6000000003 := by rw [hs2, List.length_append, List.length_singleton]; omega
  rw [← hs2]
  have h1 := quote_told [] key (by simp) hkl
  have h2 := put_told p s2 hp (by omega)
  simp only [bB, prB, boxB, List.nil_append, List.length_nil, bA_nil] at h1 h2 ⊢
  have h1 : ToldM Tryz.prog _ _ ([] ++ [⟨true, 5, 1, []⟩]) _ _ := h1
  refine VC.toldM ent_27 [] Tryz.func27 rfl Tryz.ntmps27 (by simp) (by simp only [ bA_len, bA_sc, prA_sc, prA_ce, ScM, zOk, inL, eq_self, used_is, sc_any, sc_c, sc_pp, sc_ref, sc_row, sc_agg, sc_tup, sc_fn, ScL, some_imp, List.forall_mem_map, Nat.le_refl, go_sem, Int.reduceBEq, Int.reduceLE, Int.reduceLT, Int.reduceNeg, Nat.reduceAdd, Nat.reduceEqDiff, Nat.reduceLT, Nat.reduceLeDiff, Nat.reduceMul, Nat.reduceSub, reduceCtorEq, ↓reduceIte]) (by simp only [ bA_len, bA_sc, prA_sc, prA_ce, ScM, zOk, inL, eq_self, used_is, sc_any, sc_c, sc_pp, sc_ref, sc_row, sc_agg, sc_tup, sc_fn, ScL, some_imp, List.forall_mem_map, Nat.le_refl, go_sem, Int.reduceBEq, Int.reduceLE, Int.reduceLT, Int.reduceNeg, Nat.reduceAdd, Nat.reduceEqDiff, Nat.reduceLT, Nat.reduceLeDiff, Nat.reduceMul, Nat.reduceSub, reduceCtorEq, ↓reduceIte]) (by simp only [ bA_len, bA_sc, prA_sc, prA_ce, ScM, zOk, inL, eq_self, used_is, sc_any, sc_c, sc_pp, sc_ref, sc_row, sc_agg, sc_tup, sc_fn, ScL, some_imp, List.forall_mem_map, Nat.le_refl, go_sem, Int.reduceBEq, Int.reduceLE, Int.reduceLT, Int.reduceNeg, Nat.reduceAdd, Nat.reduceEqDiff, Nat.reduceLT, Nat.reduceLeDiff, Nat.reduceMul, Nat.reduceSub, reduceCtorEq, ↓reduceIte]) (by simp only [ bA_len, bA_sc, prA_sc, prA_ce, ScM, zOk, inL, eq_self, used_is, sc_any, sc_c, sc_pp, sc_ref, sc_row, sc_agg, sc_tup, sc_fn, ScL, some_imp, List.forall_mem_map, Nat.le_refl, go_sem, Int.reduceBEq, Int.reduceLE, Int.reduceLT, Int.reduceNeg, Nat.reduceAdd, Nat.reduceEqDiff, Nat.reduceLT, Nat.reduceLeDiff, Nat.reduceMul, Nat.reduceSub, reduceCtorEq, ↓reduceIte]) (by simp) fun hb hbL => ?_
  clear hb hbL
  have hki : (ks.map sPV)[i]? = some [.v (.string (str key))] := by rw [List.getElem?_map, hi]; rfl
  have hap : bA (mQuote key) ++ [[AV.c (.v (.int .u8 58))]] = bA s2 := by rw [hs2, ← bA_one]; rfl
  have hapl : (mQuote key).length + 1 = s2.length := by rw [hs2]; simp
  refine walkGF (And.intro @cells_mk hki) ?_
  ((refine AO.step fun K hK => ?_; simp only [go_sem, Int.reduceBEq, Int.reduceLE, Int.reduceLT, Int.reduceNeg, Nat.reduceAdd, Nat.reduceEqDiff, Nat.reduceLT, Nat.reduceLeDiff, Nat.reduceMul, Nat.reduceSub, reduceCtorEq, ↓reduceIte, cells_mk, hki, bA_nil, bA_ren]; (first | refine gsel_go ?_ | skip)); (first | refine .inr (.inr (.inr ⟨?vy4, [], ?vt4, ?vz4, ?va4, ?vl4, ?vm4, ?cond4, ?cont4⟩)) | refine .inr (.inr (.inr (.inl ⟨?vy4, [], ?vt4, ?vz4, ?va4, ?vl4, ?vm4, ?cond4, ?cont4⟩)))); (case cond4 => ((repeat' apply And.intro) <;> (try ((with_reducible show ToldM _ _ _ _ _ _); exact h1))); (all_goals first | trivial | (simp only [cells_mk, hki, bA_nil, bA_ren, go_sem, Int.reduceBEq, Int.reduceLE, Int.reduceLT, Int.reduceNeg, Nat.reduceAdd, Nat.reduceEqDiff, Nat.reduceLT, Nat.reduceLeDiff, Nat.reduceMul, Nat.reduceSub, reduceCtorEq, ↓reduceIte]; done) | (simp; done) | rfl)); (first | refine hK _ _ _ ?_ | (simp only [cells_mk, hki, bA_nil, bA_ren, go_sem, Int.reduceBEq, Int.reduceLE, Int.reduceLT, Int.reduceNeg, Nat.reduceAdd, Nat.reduceEqDiff, Nat.reduceLT, Nat.reduceLeDiff, Nat.reduceMul, Nat.reduceSub, reduceCtorEq, ↓reduceIte]; first | refine hK _ _ _ ?_ | refine ⟨rfl, hK _ _ _ ?_⟩)); clear hK K)
  refine walkGF (And.intro @bA_len (And.intro @bA_ren (And.intro hap hapl))) ?_
  (refine AO.step fun K hK => ?_; simp only [go_sem, Int.reduceBEq, Int.reduceLE, Int.reduceLT, Int.reduceNeg, Nat.reduceAdd, Nat.reduceEqDiff, Nat.reduceLT, Nat.reduceLeDiff, Nat.reduceMul, Nat.reduceSub, reduceCtorEq, ↓reduceIte, bA_len, bA_ren, hap, hapl]; (first | refine gsel_go ?_ | skip))
  refine ⟨bytePV s2, ⟨bA_pv s2, bytePV_ok s2⟩, hK _ _ _ ?_⟩; clear hK K
  refine walkGF (@bytesOf_pv) ?_
  ((refine AO.step fun K hK => ?_; simp only [go_sem, Int.reduceBEq, Int.reduceLE, Int.reduceLT, Int.reduceNeg, Nat.reduceAdd, Nat.reduceEqDiff, Nat.reduceLT, Nat.reduceLeDiff, Nat.reduceMul, Nat.reduceSub, reduceCtorEq, ↓reduceIte, bytesOf_pv, str, bA_ren, prA_r2]; (first | refine gsel_go ?_ | skip)); refine .inr (.inr (.inl ⟨?vy3, [1000000, 1000001], ?va3, ?vl3, ?vm3, ?cond3, ?cont3⟩)); (case cond3 => ((repeat' apply And.intro) <;> (try ((with_reducible show ToldM _ _ _ _ _ _); exact h2))); (all_goals first | trivial | (simp only [bytesOf_pv, str, bA_ren, prA_r2, go_sem, Int.reduceBEq, Int.reduceLE, Int.reduceLT, Int.reduceNeg, Nat.reduceAdd, Nat.reduceEqDiff, Nat.reduceLT, Nat.reduceLeDiff, Nat.reduceMul, Nat.reduceSub, reduceCtorEq, ↓reduceIte]; done) | (simp; done) | rfl)); (first | refine hK _ _ _ ?_ | (simp only [bytesOf_pv, str, bA_ren, prA_r2, go_sem, Int.reduceBEq, Int.reduceLE, Int.reduceLT, Int.reduceNeg, Nat.reduceAdd, Nat.reduceEqDiff, Nat.reduceLT, Nat.reduceLeDiff, Nat.reduceMul, Nat.reduceSub, reduceCtorEq, ↓reduceIte]; first | refine hK _ _ _ ?_ | refine ⟨rfl, hK _ _ _ ?_⟩)); clear hK K)
  refine walkGF (And.intro @bA_len (And.intro @prA_ce (And.intro @bA_ren @prA_r2))) ?_
  refine ⟨by first | exact .inr rfl | exact .inl rfl, ?_⟩; rw [Tryz.results27]; simp only [bA_ren, prA_e3, prA_r2, resOk, resV, go_sem, Int.reduceBEq, Int.reduceLE, Int.reduceLT, Int.reduceNeg, Nat.reduceAdd, Nat.reduceEqDiff, Nat.reduceLT, Nat.reduceLeDiff, Nat.reduceMul, Nat.reduceSub, reduceCtorEq, ↓reduceIte]

end Go.Proofs.YticfioblapjkmaaGreat
