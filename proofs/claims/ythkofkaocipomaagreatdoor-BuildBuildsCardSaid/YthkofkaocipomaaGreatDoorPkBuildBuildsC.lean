/- Texts that lead to the law BuildBuilds, joined. -/
import Derived.Test.YthkofkaocipomaaGreatDoorPkBuildBuildsB
import Derived.Test.YthkofkaocipomaaGreatDoorPkBuildBuildsA
import Derived.Test.YthkofkaocipomaaGreatDoorPkBuildBuildsXAbB
namespace Go.Proofs.YthkofkaocipomaaGreatDoor
set_option maxRecDepth 100000
set_option maxHeartbeats 6400000
open Go.RowKit
set_option linter.unusedVariables false
set_option linter.unusedSimpArgs false

theorem j4t (r n0 : Nat) (x : Value) (n : Nat) (e : Int) (h : r ≠ 1000001) : hidB r n0 x (xW n e) = xW n e := by
 unfold hidB xW
 simp [hidA, Ne.symm h]
theorem j3o {used : Nat → Prop} {h : Nat → Option Blkd} {R : Blkd} (hpure : ∀ e ∈ R.elems, ∀ x ∈ e, ∃ p, x = AV.c p) : ∀ e ∈ R.elems, ScL used h e := fun e he x hx => by
 obtain ⟨p, rfl⟩ := hpure e he x hx
 exact .c
theorem q5q (es : List EN) (new : List NT) : (es ++ new.map EN.of).length = es.length + new.length := by simp
theorem open_scB {es : List EN} {i : Nat} {e0 : EN} (hi : i < es.length) (R : Blkd) (hrow : R.row = true) (hpure : ∀ e ∈ R.elems, ∀ x ∈ e, ∃ p, x = AV.c p) (n' : Nat) (e' : Int) (hn' : n' = es.length) (y : AV) (hy : ∀ used h, Sc used h y) :
  ScM ([some (xW n' e'), some (xNB es i e0 1000002 R.len)] ++ [some R]) y := by
 refine ⟨hy _ _, fun b hb B hB e he => ?_⟩
 simp only [List.mem_append, List.mem_cons, List.not_mem_nil, or_false] at hb
 rcases hb with (rfl | rfl) | rfl
 all_goals obtain rfl := Option.some.inj hB
 · obtain rfl := List.mem_singleton.1 he
   intro z hz
   simp only [List.mem_cons, List.not_mem_nil, or_false] at hz
   rcases hz with rfl | rfl | rfl
   · refine .row (by unfold inL; simp) fun B hB => ?_
     obtain rfl := Option.some.inj hB
     show n' ≤ ((rA EN.cells es).set i _).length
     rw [List.length_set, q0a]
     exact Nat.le_of_eq hn'
   · exact .c
   · exact .c
 · have hs := (q4z (used := inL ([some (xW n' e'), some (xNB es i e0 1000002 R.len)] ++ [some R]).length) (h := q0l ([some (xW n' e'), some (xNB es i e0 1000002 R.len)] ++ [some R])) hi (opB e0 1000002 R.len)).mpr
   rw [q5r] at hs
   refine hs (.row (by unfold inL; simp) fun B hB => ?_) e he
   obtain rfl := Option.some.inj hB
   exact Nat.le_refl _
 · exact j3o hpure e he
theorem open_told {f : FuncId} {args : List AV} {y : AV} {es : List EN} {i : Nat} {e0 : EN} (hi : es[i]? = some e0) (R : Blkd) (hrow : R.row = true) (hpure : ∀ e ∈ R.elems, ∀ x ∈ e, ∃ p, x = AV.c p) (n n' : Nat) (e e' : Int) (new : List NT)
  (hn : n' = es.length + new.length) (hy : ∀ used h, Sc used h y)
  (hT : ∀ x : Value, ToldM Tryz.prog f args [xW n e, xN (es.set i (e0.wb (.v x)))] [some (xW n' e'), some (xN (es.set i (e0.wb (.v x)) ++ new.map EN.of))] y) :
  ToldM Tryz.prog f args [xW n e, xNB es i e0 1000002 R.len, R] [some (xW n' e'), some (xNB (es ++ new.map EN.of) i e0 1000002 R.len), some R] y := by
 have hlt := (List.getElem?_eq_some_iff.1 hi).1
 refine ToldM.hide (L := [xW n e, xNB es i e0 1000002 R.len]) (L' := [some (xW n' e'), some (xNB (es ++ new.map EN.of) i e0 1000002 R.len)]) R hrow hpure rfl ?_ ?_ ?_
 · intro x _
   have h := hT x
   have hs : es.set i (e0.wb (.v x)) ++ new.map EN.of = (es ++ new.map EN.of).set i (e0.wb (.v x)) := (List.set_append_left i (e0.wb (.v x)) hlt).symm
   rw [hs] at h
   have h1 := j2k es i e0 1000002 R.len x
   have h2 := j2k (es ++ new.map EN.of) i e0 1000002 R.len x
   simp only [List.map_cons, List.map_nil, Option.map_some, List.length_cons, List.length_nil]
   rw [show 1000000 + (0 + 1 + 1) = 1000002 from rfl, j4t _ _ _ _ _ (by decide), j4t _ _ _ _ _ (by decide), h1, h2]
   exact h
 · exact ⟨rfl, rfl, rfl, trivial⟩
 · exact open_scB (by rw [q5q]; omega) R hrow hpure n' e' (by rw [hn, q5q]) y hy
theorem open_scF {es : List EN} {i : Nat} {e0 : EN} (hi : i < es.length) (R : Blkd) (hrow : R.row = true) (hpure : ∀ e ∈ R.elems, ∀ x ∈ e, ∃ p, x = AV.c p) (n' : Nat) (e' : Int) (hn' : n' = es.length) (y : AV) (hy : ∀ used h, Sc used h y) :
  ScM ([some (xW n' e'), some (xNF es i e0 1000002 R.len)] ++ [some R]) y := by
 refine ⟨hy _ _, fun b hb B hB e he => ?_⟩
 simp only [List.mem_append, List.mem_cons, List.not_mem_nil, or_false] at hb
 rcases hb with (rfl | rfl) | rfl
 all_goals obtain rfl := Option.some.inj hB
 · obtain rfl := List.mem_singleton.1 he
   intro z hz
   simp only [List.mem_cons, List.not_mem_nil, or_false] at hz
   rcases hz with rfl | rfl | rfl
   · refine .row (by unfold inL; simp) fun B hB => ?_
     obtain rfl := Option.some.inj hB
     show n' ≤ ((rA EN.cells es).set i _).length
     rw [List.length_set, q0a]
     exact Nat.le_of_eq hn'
   · exact .c
   · exact .c
 · have hs := (q4z (used := inL ([some (xW n' e'), some (xNF es i e0 1000002 R.len)] ++ [some R]).length) (h := q0l ([some (xW n' e'), some (xNF es i e0 1000002 R.len)] ++ [some R])) hi (opF e0 1000002 R.len)).mpr
   rw [j2r] at hs
   refine hs (.row (by unfold inL; simp) fun B hB => ?_) e he
   obtain rfl := Option.some.inj hB
   exact Nat.le_refl _
 · exact j3o hpure e he
theorem z1n {f : FuncId} {args : List AV} {y : AV} {es : List EN} {i : Nat} {e0 : EN} (hi : es[i]? = some e0) (R : Blkd) (hrow : R.row = true) (hpure : ∀ e ∈ R.elems, ∀ x ∈ e, ∃ p, x = AV.c p) (n n' : Nat) (e e' : Int) (new : List NT)
  (hn : n' = es.length + new.length) (hy : ∀ used h, Sc used h y)
  (hT : ∀ x : Value, ToldM Tryz.prog f args [xW n e, xN (es.set i (e0.wf (.v x)))] [some (xW n' e'), some (xN (es.set i (e0.wf (.v x)) ++ new.map EN.of))] y) :
  ToldM Tryz.prog f args [xW n e, xNF es i e0 1000002 R.len, R] [some (xW n' e'), some (xNF (es ++ new.map EN.of) i e0 1000002 R.len), some R] y := by
 have hlt := (List.getElem?_eq_some_iff.1 hi).1
 refine ToldM.hide (L := [xW n e, xNF es i e0 1000002 R.len]) (L' := [some (xW n' e'), some (xNF (es ++ new.map EN.of) i e0 1000002 R.len)]) R hrow hpure rfl ?_ ?_ ?_
 · intro x _
   have h := hT x
   have hs : es.set i (e0.wf (.v x)) ++ new.map EN.of = (es ++ new.map EN.of).set i (e0.wf (.v x)) := (List.set_append_left i (e0.wf (.v x)) hlt).symm
   rw [hs] at h
   have h1 := j3d es i e0 1000002 R.len x
   have h2 := j3d (es ++ new.map EN.of) i e0 1000002 R.len x
   simp only [List.map_cons, List.map_nil, Option.map_some, List.length_cons, List.length_nil]
   rw [show 1000000 + (0 + 1 + 1) = 1000002 from rfl, j4t _ _ _ _ _ (by decide), j4t _ _ _ _ _ (by decide), h1, h2]
   exact h
 · exact ⟨rfl, rfl, rfl, trivial⟩
 · exact open_scF (by rw [q5q]; omega) R hrow hpure n' e' (by rw [hn, q5q]) y hy
section
attribute [local go_sem] opx opE ev okx q5a bnd okO AV.get AV.okb cAV q8a q83 q82 j1w q60 q8z q8y st q8h q50 q8j q8k q8i binV binI binS q4s q5j q5b q5k unV q5w q4a q3m q00 q2d Blkd.len setE grown q1r q4x q3n q26 pv q41 q3t q4o AV.cellish AV.pureL AV.pureB q8w q8m AV.ren AV.renL q85 Blkd.ren rho wrM renN q2w rhoE q4m q4t q75 q78 j1b j1e j1i j1n j1q q7i q9a q9f q9g q9l q9p q9r q9s q9t q9y q93 q98 q76 q77 j0e q7h j0j j0k j0m j0n j08 j09 j1a j1c j1d j1f j1g j1h j1j j1k j1l j1m j1o j1p j1r j1s j1t j1u j1v q9b q9c q9d q9e q9h q9i q9j q9k q9m q9n q9o q9q q9u q9v q9w q9x q9z q90 q91 q92 q94 q95 q96 q97 q99 j0a j0b j0c j0d j0f j0g j0h j0i j0l j0o j0p j0q j0r j0s j0t j0u j0v j0w j0x j0y j0z j00 j01 j02 j03 j04 j05 j06 j07 Option.map_some Option.map_none Option.getD_some Option.getD_none Option.bind_some Option.bind_none List.getElem?_cons_zero List.getElem?_cons_succ List.getElem?_nil List.getElem?_toArray List.length_cons List.length_nil List.length_map List.forall_mem_map List.map_cons List.map_nil List.drop_zero List.drop_succ_cons List.drop_nil List.take_zero List.take_succ_cons List.take_nil List.mem_cons List.not_mem_nil or_false forall_eq_or_imp forall_eq List.set_cons_zero List.set_cons_succ List.cons_append List.nil_append List.append_nil List.foldl_cons List.foldl_nil List.replicate_succ List.replicate_zero List.all_cons List.all_nil if_true if_false Bool.false_eq_true ne_eq not_false_eq_true not_true_eq_false true_and and_true and_self true_implies imp_self implies_true forall_const beq_self_eq_true Bool.and_true Bool.true_and Bool.and_false Bool.false_and Bool.or_true Bool.true_or Bool.or_false Bool.false_or Bool.not_true Bool.not_false Bool.not_eq_eq_eq_not q55 Value.oneCell' Int.toNat_natCast beq_true beq_false Bool.not_eq_true false_implies false_or true_or or_true Nat.zero_add Nat.add_zero decide_true decide_false Int.cast_ofNat_Int Int.toNat_zero Int.toNat_one eq_self

abbrev BV := List NT × Int × Int
structure KidOk (a : List UInt8) (x : JT) (fN : List HN → BV) : Prop where
 told : ∀ es : List EN, es.length ≤ 200 → q1o 35 es 0 [x.av, strV a] (fN (hsE es))
 len : ∀ hs : List HN, hs.length ≤ 200 → hs.length + (fN hs).1.length ≤ 200
 place : ∀ hs : List HN, hs.length ≤ 200 → (fN hs).2.2 = 0 → 0 ≤ (fN hs).2.1 ∧ (fN hs).2.1 < ((hs.length + (fN hs).1.length : Nat) : Int)
def q2e (fN : List HN → BV) (hs : List HN) (e : Int) : BV := if e ≠ 0 then ([], 0, e) else fN hs
theorem stepV_len {a : List UInt8} {x : JT} {fN : List HN → BV} (hk : KidOk a x fN) {hs : List HN} (hl : hs.length ≤ 200) (e : Int) : hs.length + (q2e fN hs e).1.length ≤ 200 := by
 unfold q2e
 split
 · exact hl
 · exact hk.len hs hl
theorem z6z {a : List UInt8} {x : JT} {fN : List HN → BV} (hk : KidOk a x fN) {hs : List HN} (hl : hs.length ≤ 200) {e : Int} (h : (q2e fN hs e).2.2 = 0) : 0 ≤ (q2e fN hs e).2.1 ∧ (q2e fN hs e).2.1 < ((hs.length + (q2e fN hs e).1.length : Nat) : Int) := by
 unfold q2e at *
 split
 · rename_i he
   rw [if_pos he] at h
   exact absurd h he
 · rename_i he
   rw [if_neg he] at h
   exact hk.place hs hl h
theorem j9e (es : List EN) (j : JT) (a : List UInt8) (e : Int) (he : e ≠ 0) : q1o 35 es e [j.av, strV a] ([], 0, e) := by
 unfold q1o strV at *
 have hq : (e != 0) = true := by simpa using he
 simp only [List.map_nil, List.append_nil]
 rw [JT.av_eq, q0m]
 generalize j.kd = j1 at *
 generalize j.num = j2 at *
 generalize j.txt = j3 at *
 generalize j.its = j4 at *
 generalize j.keys = j5 at *
 unfold xW xN at *
 refine VC.toldXF (And.intro @q0a @q0g) j26 [] Tryz.func35 rfl Tryz.ntmps35 fun hb hbL => ?_
 clear hb hbL
 refine q0f (And.intro @q0a (And.intro @q0b hq)) ?_
 refine q0j (@q0b) Tryz.results35 ?_
 exact .c _
theorem KidOk.step {a : List UInt8} {x : JT} {fN : List HN → BV} (hk : KidOk a x fN) (es : List EN) (hl : es.length ≤ 200) (e : Int) : q1o 35 es e [x.av, strV a] (q2e fN (hsE es) e) := by
 unfold q2e
 by_cases he : e = 0
 · subst he
   rw [if_neg (by simp)]
   exact hk.told es hl
 · rw [if_pos he]
   exact j9e es x a e he
def q24 (fN : JT → List HN → BV) (hs : List HN) : List JT → List Int → List NT → Int → List Int × List NT × Int × Bool
 | [], ks, new, e => (ks, new, e, true)
 | x :: xs, ks, new, e =>
   if (q2e (fN x) (hs ++ new.map q0p) e).2.2 ≠ 0 then (ks, new ++ (q2e (fN x) (hs ++ new.map q0p) e).1, (q2e (fN x) (hs ++ new.map q0p) e).2.2, false)
   else q24 fN hs xs (ks ++ [(q2e (fN x) (hs ++ new.map q0p) e).2.1]) (new ++ (q2e (fN x) (hs ++ new.map q0p) e).1)
    (if q4f (hs ++ (new ++ (q2e (fN x) (hs ++ new.map q0p) e).1).map q0p) ks (q2e (fN x) (hs ++ new.map q0p) e).2.1 = true then 0 else 34)
def q46 (fN : JT → List HN → BV) (hs : List HN) (l : List JT) : BV :=
 if l.length < 1 ∨ 10 < l.length then ([], 0, 34) else if 200 ≤ hs.length then ([], 0, 3)
 else ({ q1g 13 with branches := (q24 fN (hs ++ [(13, [])]) l [] [] 0).1 } :: (q24 fN (hs ++ [(13, [])]) l [] [] 0).2.1,
  if (q24 fN (hs ++ [(13, [])]) l [] [] 0).2.2.2 = true then (hs.length : Int) else 0, (q24 fN (hs ++ [(13, [])]) l [] [] 0).2.2.1)
def uN0 : EN := ⟨q1g 13, .sl 9 [], .v (.slice none 0 0)⟩
def uE (es : List EN) (new : List NT) : List EN := es ++ uN0 :: new.map EN.of
theorem q3b (es : List EN) (new : List NT) : (uE es new).length = es.length + 1 + new.length := by simp [uE]; omega
theorem q5f (es : List EN) (new : List NT) : (uE es new)[es.length]? = some uN0 := by
 unfold uE
 rw [List.getElem?_append_right (Nat.le_refl _), Nat.sub_self]
 rfl
theorem uE_app (es : List EN) (new m : List NT) : uE es new ++ m.map EN.of = uE es (new ++ m) := by simp [uE]
theorem q79 (es : List EN) (new : List NT) : hsE (uE es new) = hsE es ++ [(13, [])] ++ new.map q0p := by
 unfold uE hsE
 rw [List.map_append, List.map_cons, List.map_map, List.append_assoc]
 rfl
theorem uC_eq (r m : Nat) : opB uN0 r m = [.c (.v (.int .i64 13)), .c (.v (.string (str []))), .c (.sl 1 []), .c (.sl 9 []), .c (.sl 1 []), .c (.v (.bool false)), .c (.v (.string (str []))), .c (.v (.int .i64 0)), .c (.v (.int .i64 0)), .row r m] := rfl
theorem uE_done (es : List EN) (new : List NT) (ks : List Int) : (rA EN.cells (uE es new)).set es.length [.c (.v (.int .i64 13)), .c (.v (.string (str []))), .c (.sl 1 []), .c (.sl 9 []), .c (.sl 1 []), .c (.v (.bool false)), .c (.v (.string (str []))), .c (.v (.int .i64 0)), .c (.v (.int .i64 0)), .c (.sl 1 (ks.map iPV))] = rA EN.cells (es ++ ({ q1g 13 with branches := ks } :: new).map EN.of) := by
 have h := q69 (f := EN.cells) (uE es new) es.length (EN.of { q1g 13 with branches := ks })
 unfold uE at h ⊢
 rw [List.set_append_right _ _ (Nat.le_refl _), Nat.sub_self, List.set_cons_zero] at h
 exact h
theorem z4d (es : List EN) (hl : es.length < 200) : ToldM Tryz.prog 117 [.ref 1000000 1 0 0, .agg [.c (.v (.int .i64 13)), .c (.v (.string ⟨#[]⟩)), .c (.v (.slice none 0 0)), .c (.v (.slice none 0 0)), .c (.v (.slice none 0 0)), .c (.v (.bool false)), .c (.v (.string ⟨#[]⟩)), .c (.v (.int .i64 0)), .c (.v (.int .i64 0)), .c (.v (.slice none 0 0))]] [xW es.length 0, xN es]
  [some (xW (es.length + 1) 0), some (xN (uE es []))] (.c (.v (.int .i64 (es.length : Int)))) := by
 have h := j32 es (by omega) 0 uN0
 rw [show decide (200 ≤ es.length) = false by simp; omega, show fl 0 false 3 = 0 from rfl, if_pos rfl, if_pos rfl, List.length_append] at h
 refine ToldM.co h (.cons (.same _) (.cons ?_ .nil))
 rw [EN.av_eq, q2v]
 exact Co.aggL (.cons (.same _) (.cons (.same _) (.cons (.nil 1) (.cons (.nil 9) (.cons (.nil 1) (.cons (.same _) (.cons (.same _) (.cons (.same _) (.cons (.same _) (.cons (.same _) .nil))))))))))

theorem ixfF_told {g : FuncId} {fs cs : List AV} (hp : AV.pureL fs = true) (hp' : AV.pureL cs = true) (l : List (FT)) (p : FT → Bool) (hk : ∀ x ∈ l, Told Tryz.prog g (fs ++ ([x.av] ++ cs)) (.c (.v (.bool (p x))))) :
  Told Tryz.prog 270 [.c (.sl 9 (l.map FT.cells)), .fn (.func g) fs cs] (.c (.v (.int .i64 (idxP p l)))) := by
 refine VC.told ent_270 Tryz.func270 rfl Tryz.ntmps270 (by simp) (by simp [AV.pureB, AV.pureL, hp, hp']) rfl fun hb => ?_
 simp only [List.mem_cons, List.not_mem_nil, or_false, forall_eq_or_imp, forall_eq, q47, q5d, List.length_map] at hb
 have h1 := hb.1.1
 clear hb
 refine q0c ?_
 refine VC.loop (ι := {i : Nat // i ≤ l.length ∧ ∀ j x, j < i → l[j]? = some x → p x = false}) (fun i => [(0, .c (.sl 9 (l.map FT.cells))), (1, .fn (.func g) fs cs), (7, .c (.v (.int .i64 l.length))), (8, .c (.v (.int .i64 i.1)))]) (fun _ => []) 0 (fun i => l.length - i.1) ⟨0, Nat.zero_le _, by intro j x hj; omega⟩ ?_ ?_
 · simp only [q4d hp, q4d hp', Weak, eq_self, q09, q03, sc_c, q05, q06, q07, q02, q04, ScL, q08, List.forall_mem_map, go_sem, Int.reduceBEq, Int.reduceLE, Int.reduceLT, Int.reduceNeg, Nat.reduceAdd, Nat.reduceEqDiff, Nat.reduceLT, Nat.reduceLeDiff, Nat.reduceMul, Nat.reduceSub, reduceCtorEq, ↓reduceIte]
   all_goals rfl
 rintro ⟨i, hi, ht⟩
 refine q0c ?_
 refine VC.cond (by rfl) (by trivial) (fun hc => ?_) (fun hc => ?_)
 · simp only [decide_eq_true_eq] at hc
   obtain ⟨x, hx⟩ : ∃ x, l[i]? = some x := ⟨l[i]'(by omega), List.getElem?_eq_getElem _⟩
   have hw : IntKind.i64.wrap ((i : Int) + 1) = (i : Int) + 1 := q0w (by omega) (by omega)
   have hkx := hk x (List.mem_of_getElem? hx)
   refine q0d (And.intro @q4w (And.intro hx (And.intro @FT.av_eq (And.intro @j4w (And.intro @z2x @z2y))))) ?_
   refine q33 (And.intro @FT.av_eq (And.intro @j4w (And.intro @z2x (And.intro @z2y (And.intro hp (And.intro hp' (And.intro @j3l (And.intro @q20 @lAss)))))))) (hkx) ?_
   refine q0c ?_
   refine VC.cond (by rfl) (by trivial) (fun hpx => ?_) (fun hpx => ?_)
   · have hr := j2m hx hpx ht
     refine q0c ?_
     refine retX Tryz.results270 ?_
     rw [hr]
     exact .c _
   · refine q0d (hw) ?_
     refine .next ⟨i + 1, by omega, fun j y hj hy => ?_⟩ ?_ (by simp only []; omega)
     · rcases Nat.lt_or_ge j i with h | h
       · exact ht j y h hy
       · obtain rfl : j = i := by omega
         rw [hx] at hy
         obtain rfl := Option.some.inj hy
         exact hpx
     simp only [q4d hp, q4d hp', Weak, eq_self, q09, q03, sc_c, q05, q06, q07, q02, q04, ScL, q08, List.forall_mem_map, go_sem, Int.reduceBEq, Int.reduceLE, Int.reduceLT, Int.reduceNeg, Nat.reduceAdd, Nat.reduceEqDiff, Nat.reduceLT, Nat.reduceLeDiff, Nat.reduceMul, Nat.reduceSub, reduceCtorEq, ↓reduceIte]
     exact cI (by omega)
 · simp only [decide_eq_false_iff_not] at hc
   obtain rfl : i = l.length := by omega
   have hr := j2n ht
   refine q0c ?_
   refine retX Tryz.results270 ?_
   rw [hr]
   exact .c _
theorem cnfF_told {g : FuncId} {fs cs : List AV} (hp : AV.pureL fs = true) (hp' : AV.pureL cs = true) (l : List (FT)) (p : FT → Bool) (hk : ∀ x ∈ l, Told Tryz.prog g (fs ++ ([x.av] ++ cs)) (.c (.v (.bool (p x))))) :
  Told Tryz.prog 223 [.c (.sl 9 (l.map FT.cells)), .fn (.func g) fs cs] (.c (.v (.bool (l.any p)))) := by
 have hi := ixfF_told hp hp' l p hk
 refine VC.told ent_223 Tryz.func223 rfl Tryz.ntmps223 (by simp) (by simp [AV.pureB, AV.pureL, hp, hp']) rfl fun hb => ?_
 clear hb
 refine q0c ?_
 refine q33 (And.intro hp hp') (hi) ?_
 refine q0c ?_
 refine retX Tryz.results223 ?_
 exact q30 (by rw [j4u])

def xFs (l : List FT) : Blkd := ⟨true, 72, 9, rA FT.cells l⟩
theorem j5t (l : List FT) : (xFs l).len = l.length := by unfold xFs Blkd.len; rw [q0a]
theorem j5u (l : List FT) : ∀ e ∈ (xFs l).elems, ∀ x ∈ e, ∃ p, x = AV.c p := fun e he x hx => by
 obtain ⟨b, _, rfl⟩ := List.mem_map.1 he
 obtain ⟨p, _, rfl⟩ := List.mem_map.1 hx
 exact ⟨p, rfl⟩
def q53 (e : Int) (x : JT) (fs : List FT) : Int :=
 q2z (fl (fl (fl (fl e (x.kd != 6) 30) ((gt x q0x).kd != 4) 30) (!q1h (gt x q0x).txt) 31) (fs.any fun o => o.name == (gt x q0x).txt) 36) x q1h
def q6i (x : JT) : FT := ⟨(gt x q0x).txt, q3i x id, 0, (jget x q1q).isSome, gt x q1q⟩
theorem z42 (o : FT) (name : List UInt8) (c : List PV) (hc : c.length = 8) : Told Tryz.prog 224 [o.av, .pp (.v (.string (str name)) :: c)] (.c (.v (.bool (o.name == name)))) := by
 obtain ⟨c1, c2, c3, c4, c5, c6, c7, c8, rfl⟩ : ∃ c1 c2 c3 c4 c5 c6 c7 c8, c = [c1, c2, c3, c4, c5, c6, c7, c8] := by
  match c, hc with
  | [c1, c2, c3, c4, c5, c6, c7, c8], _ => exact ⟨_, _, _, _, _, _, _, _, rfl⟩
 obtain ⟨V, hV⟩ : ∃ V, V = (o.name == name) := ⟨_, rfl⟩
 rw [← hV]
 replace hV := Lib.hid hV
 rw [FT.av_eq, FT.cells, q0m]
 refine VC.toldP ent_224 Tryz.func224 rfl Tryz.ntmps224 fun hb => ?_
 clear hb
 refine q0d (@q2i) ?_
 refine retX Tryz.results224 ?_
 rw [hV.out]
 exact .c _
theorem fOpen {f : FuncId} {args : List AV} {y : AV} {es : List EN} {i : Nat} {e0 : EN} (hi : es[i]? = some e0) (fs : List FT) (e e' : Int) (hy : ∀ used h, Sc used h y)
  (hT : ∀ E : List EN, E.length = es.length → ToldM Tryz.prog f args [xW E.length e, xN E] [some (xW E.length e'), some (xN E)] y) :
  ToldM Tryz.prog f args [xW es.length e, xNF es i e0 1000002 fs.length, xFs fs] [some (xW es.length e'), some (xNF es i e0 1000002 fs.length), some (xFs fs)] y := by
 have h := z1n hi (xFs fs) rfl (j5u fs) (f := f) (args := args) (y := y) es.length es.length e e' [] (by simp) hy (fun x => by
  have h1 := hT (es.set i (e0.wf (.v x))) List.length_set
  rw [List.length_set] at h1
  rw [List.map_nil, List.append_nil]
  exact h1)
 rw [List.map_nil, List.append_nil, j5t] at h
 exact h
theorem z4a {es : List EN} {i0 : Nat} {e0 : EN} (hi0 : es[i0]? = some e0) (fs : List FT) (hfs : fs.length ≤ 1000000) (e : Int) (x : JT) (hn : (gt x q0x).txt.length ≤ 100000000) (ha : (gt x q0z).its.length ≤ 1000000) (ht : ∀ y ∈ (gt x q0z).its, y.txt.length ≤ 100000000) :
  ToldM Tryz.prog 167 [.ref 1000000 1 0 0, x.av, .row 1000002 fs.length] [xW es.length e, xNF es i0 e0 1000002 fs.length, xFs fs] [some (xW es.length (q53 e x fs)), some (xNF es i0 e0 1000002 fs.length), some (xFs fs)] (q6i x).av := by
 have hlt := (List.getElem?_eq_some_iff.1 hi0).1
 have hsc : ∀ {used : Nat → Prop} {h : Nat → Option Blkd}, _ := fun {used} {h} => q4z (used := used) (h := h) hlt (opF e0 1000002 fs.length)
 have hF1 := fOpen hi0 fs e (fl e (x.kd != 6) 30) (f := 36) (args := [.ref 1000000 1 0 0, .c (.v (.bool (x.kd != 6))), .c (.v (.int .i64 30))]) (y := .tup []) (fun _ _ => .tup (by simp)) (fun E _ => q2j E E.length rfl e 30 (x.kd != 6))
 unfold q53 q6i
 generalize fl e (x.kd != 6) 30 = e1 at *
 have hT := fOpen hi0 fs e1 (fl e1 ((gt x q0x).kd != 4) 30) (f := 121) (args := [.ref 1000000 1 0 0, x.av, .c (.v (.string (str q0x)))]) (y := .c (.v (.string (str (gt x q0x).txt)))) (fun _ _ => .c) (fun E _ => j1y E E.length rfl e1 x q0x)
 generalize fl e1 ((gt x q0x).kd != 4) 30 = e2 at *
 have hS := j5k (gt x q0x).txt (by omega)
 have hF3 := fOpen hi0 fs e2 (fl e2 (!q1h (gt x q0x).txt) 31) (f := 36) (args := [.ref 1000000 1 0 0, .c (.v (.bool (!q1h (gt x q0x).txt))), .c (.v (.int .i64 31))]) (y := .tup []) (fun _ _ => .tup (by simp)) (fun E _ => q2j E E.length rfl e2 31 (!q1h (gt x q0x).txt))
 generalize fl e2 (!q1h (gt x q0x).txt) 31 = e3 at *
 have hC := fun c (hc : c.length = 8) => cnfF_told (g := 224) (fs := []) (cs := [.pp (.v (.string (str (gt x q0x).txt)) :: c)]) rfl rfl fs (fun o => o.name == (gt x q0x).txt) fun o _ => z42 o (gt x q0x).txt c hc
 have hF4 := fOpen hi0 fs e3 (fl e3 (fs.any fun o => o.name == (gt x q0x).txt) 36) (f := 36) (args := [.ref 1000000 1 0 0, .c (.v (.bool (fs.any fun o => o.name == (gt x q0x).txt))), .c (.v (.int .i64 36))]) (y := .tup []) (fun _ _ => .tup (by simp)) (fun E _ => q2j E E.length rfl e3 36 (fs.any fun o => o.name == (gt x q0x).txt))
 generalize fl e3 (fs.any fun o => o.name == (gt x q0x).txt) 36 = e4 at *
 generalize (fs.any fun o => o.name == (gt x q0x).txt) = cn at *
 generalize q1h (gt x q0x).txt = sn at *
 have hA := fOpen hi0 fs e4 (q2z e4 x q1h) (f := 169) (args := [.ref 1000000 1 0 0, x.av, .fn (.func 225) [] []]) (y := .c (.sl 1 ((q3i x id).map sPV))) (fun _ _ => .c) (fun E _ => z35 E E.length rfl e4 x ha rfl rfl id q1h fun y hy => z43 y.txt (ht y hy))
 generalize q2z e4 x q1h = e5 at *
 generalize q3i x id = al at *
 have hG := q44 x q1q
 rw [show (jget x q1q).getD zJ = gt x q1q from rfl] at hG
 generalize (jget x q1q).isSome = bd at *
 generalize (gt x q0x).txt = nm at *
 generalize gt x q1q = w at *
 clear ha ht hn
 rw [JT.av_eq w, q0m w] at hG
 rw [FT.av_eq, FT.cells, q0m w]
 generalize w.kd = w1 at *
 generalize w.num = w2 at *
 generalize w.txt = w3 at *
 generalize w.its = w4 at *
 generalize w.keys = w5 at *
 rw [JT.av_eq, q0m] at hT hA hG ⊢
 generalize x.kd = x1 at *
 generalize x.num = x2 at *
 generalize x.txt = x3 at *
 generalize x.its = x4 at *
 generalize x.keys = x5 at *
 rw [q0x, q2h [110, 97, 109, 101]] at hT
 rw [q1q, q2h [100, 101, 102, 97, 117, 108, 116]] at hG
 unfold xW xNF xFs at *
 refine VC.toldXF (And.intro @q0a (And.intro @q0g (And.intro @hsc (And.intro @j2r @q0s)))) ent_167 [] Tryz.func167 rfl Tryz.ntmps167 fun hb hbL => ?_
 clear hb hbL
 refine q0d (And.intro @q0s @q0a) ?_
 refine q0i (And.intro @q0a (And.intro @q0b (And.intro @q0v (And.intro @q1k @q0s)))) [1000000, 1000001, 1000002] (hF1) ?_
 refine q0d (And.intro @q0s (And.intro @q0a (And.intro @q0b (And.intro @q0v @q1k)))) ?_
 refine q0i (And.intro @q0a (And.intro @q0b (And.intro @q0v (And.intro @q1k @q0s)))) [1000000, 1000001, 1000002] (hT) ?_
 refine q0d (And.intro @q0s (And.intro @q0a (And.intro @q0b (And.intro @q0v @q1k)))) ?_
 refine q0e (hS) ?_
 refine q0d (And.intro @q0s (And.intro @q0a (And.intro @q0b (And.intro @q0v @q1k)))) ?_
 refine q0i (And.intro @q0a (And.intro @q0b (And.intro @q0v (And.intro @q1k @q0s)))) [1000000, 1000001, 1000002] (hF3) ?_
 refine q0d (And.intro @q0s (And.intro @q0a (And.intro @q0b (And.intro @q0v @q1k)))) ?_
 (refine AO.step fun K hK => ?_; simp only [go_sem, Int.reduceBEq, Int.reduceLE, Int.reduceLT, Int.reduceNeg, Nat.reduceAdd, Nat.reduceEqDiff, Nat.reduceLT, Nat.reduceLeDiff, Nat.reduceMul, Nat.reduceSub, reduceCtorEq, ↓reduceIte]; (first | refine q1m ?_ | skip))
 refine .inr (.inl ⟨_, [.c (.sl 9 (fs.map FT.cells)), .fn (.func 224) [] [.pp [.v (.string (str nm)), .v (.slice none 0 0), .v (.int .i64 0), .v (.bool false), .v (.int .i64 0), .v (.int .i64 0), .v (.string ⟨#[]⟩), .v (.slice none 0 0), .v (.slice none 0 0)]]], [1000002, 88], ⟨by rfl, by rfl, fun k x z h5 h6 => ?_, by rfl, hC _ rfl⟩, hK _ _ _ ?_⟩)
 · match k with
   | 0 =>
     obtain rfl := Option.some.inj h5
     obtain rfl := Option.some.inj h6
     exact View.row (B := ⟨true, 72, 9, rA FT.cells fs⟩) (es := fs.map FT.cells) (by simp [q0b]) rfl (q0a _ _) (q4p _ _)
   | 1 =>
     obtain rfl := Option.some.inj h5
     obtain rfl := Option.some.inj h6
     refine .fn rfl (by simp) rfl fun k x z h7 h8 => ?_
     match k with
     | 0 =>
       obtain rfl := Option.some.inj h7
       obtain rfl := Option.some.inj h8
       exact View.ref (es := [.v (.string (str nm)), .v (.slice none 0 0), .v (.int .i64 0), .v (.bool false), .v (.int .i64 0), .v (.int .i64 0), .v (.string ⟨#[]⟩), .v (.slice none 0 0), .v (.slice none 0 0)]) rfl rfl rfl rfl
     | k + 1 => simp at h7
   | k + 2 => simp at h5
 clear hK K
 refine q0d (And.intro @q0s (And.intro @q0a (And.intro @q0b (And.intro @q0v @q1k)))) ?_
 refine q0i (And.intro @q0a (And.intro @q0b (And.intro @q0v (And.intro @q1k @q0s)))) [1000000, 1000001, 1000002] (hF4) ?_
 refine q0d (And.intro @q0s (And.intro @q0a (And.intro @q0b (And.intro @q0v @q1k)))) ?_
 refine q0i (And.intro @q0a (And.intro @q0b (And.intro @q0v (And.intro @q1k @q0s)))) [1000000, 1000001, 1000002] (hA) ?_
 refine q0d (And.intro @q0s (And.intro @q0a (And.intro @q0b (And.intro @q0v @q1k)))) ?_
 refine q0e (hG) ?_
 refine q0d (And.intro @q0s (And.intro @q0a (And.intro @q0b (And.intro @q0v @q1k)))) ?_
 refine q0j (And.intro @q0b (And.intro @q0v @q1k)) Tryz.results167 ?_
 exact .aggL (.cons (.c _) (.cons (.c _) (.cons (.c _) (.cons (.c _) (.cons (.c _) (.cons (.c _) (.cons (.c _) (.cons (.c _) (.cons (.c _) .nil)))))))))

def j2i (j : JT) (k : Int) (a : List UInt8) : EN := ⟨q3u j k a, .v (.slice none 0 0), .sl 1 []⟩
theorem j4r (j : JT) (k : Int) (a : List UInt8) : Co (j2i j k a).av (EN.of (q3u j k a)).av := by
 rw [EN.av_eq, EN.av_eq, q2v, q68]
 exact Co.aggL (.cons (.same _) (.cons (.same _) (.cons (.same _) (.cons (.nil 9) (.cons (.same _) (.cons (.same _) (.cons (.same _) (.cons (.same _) (.cons (.same _) (.cons (.same _) .nil))))))))))
theorem z4e (es : List EN) (hl : es.length ≤ 200) (j : JT) (k : Int) (a : List UInt8) (ha : a.length ≤ 100000000) (hx1 : (gt j q0x).txt.length ≤ 100000000) (hx2 : (gt j q1d).txt.length ≤ 100000000) (hx3 : (gt j q0z).its.length ≤ 1000000) (hx4 : ∀ x ∈ (gt j q0z).its, x.txt.length ≤ 100000000) (hfl : ((q1b j a).getD []).length ≤ 100000000) :
  ToldM Tryz.prog 124 [.ref 1000000 1 0 0, j.av, .c (.v (.int .i64 k)), .c (.v (.string (str a)))] [xW es.length 0, xN es]
  [some (xW es.length (q27 (hsE es) j a)), some (xN es)] (j2i j k a).av := by
 have hT1 := j1y es es.length rfl 0 j q0x
 have hT2 := j1y es es.length rfl (fl 0 ((gt j q0x).kd != 4) 30) j q1d
 have hG := q44 j q1d
 have hR := z57 (if (jget j q1d).isSome = true then (gt j q1d).txt else []) a (gt j q0x).txt (jget j q1d).isSome (by split; exact hx2; simp) hx1 ha
 have hRe : (if (jget j q1d).isSome = true then (if (jget j q1d).isSome = true then (gt j q1d).txt else []) else a) = (if (jget j q1d).isSome = true then (gt j q1d).txt else a) := by split <;> rfl
 rw [hRe, show q1e (if (jget j q1d).isSome = true then (gt j q1d).txt else a) (gt j q0x).txt = q1b j a from rfl] at hR
 have hK := j63 ((q1b j a).getD [])
 have hF1 := q2j es es.length rfl (q4g j) 31 (!(q1b j a).isSome || (q0h ((q1b j a).getD []) : Int) != 0)
 have hFi := j96 es 0 ((q1b j a).getD [])
 rw [show (es.map fun e => q0p e.n) = hsE es from rfl] at hFi
 have hF2 := q2j es es.length rfl (fl (q4g j) (!(q1b j a).isSome || (q0h ((q1b j a).getD []) : Int) != 0) 31) 32 (decide (0 ≤ q19 (hsE es) ((q1b j a).getD [])))
 have hA := z34 es es.length rfl (q5n (hsE es) j a) j hx3 ((q1b j a).getD []) (fun s => (q1e (q1n ((q1b j a).getD [])) s).getD []) (fun s => (q1e (q1n ((q1b j a).getD [])) s).isSome) fun x hx => z49 _ x.txt hfl (hx4 x hx)
 rw [EN.av_eq, q2v]
 unfold j2i q3u q27
 rw [show fl (fl (q4g j) (!(q1b j a).isSome || (q0h ((q1b j a).getD []) : Int) != 0) 31) (decide (0 ≤ q19 (hsE es) ((q1b j a).getD []))) 32 = q5n (hsE es) j a from rfl] at hF2
 generalize q2z (q5n (hsE es) j a) j (fun s => (q1e (q1n ((q1b j a).getD [])) s).isSome) = e5 at *
 generalize q3i j (fun s => (q1e (q1n ((q1b j a).getD [])) s).getD []) = al at *
 have hE1 : q4g j = if (jget j q1d).isSome = true then fl (fl 0 ((gt j q0x).kd != 4) 30) ((gt j q1d).kd != 4) 30 else fl 0 ((gt j q0x).kd != 4) 30 := rfl
 generalize fl (fl 0 ((gt j q0x).kd != 4) 30) ((gt j q1d).kd != 4) 30 = t2 at *
 generalize fl 0 ((gt j q0x).kd != 4) 30 = t1 at *
 generalize q5n (hsE es) j a = e4 at *
 generalize q4g j = e2 at *
 unfold q5c at hR
 generalize q19 (hsE es) ((q1b j a).getD []) = fi at *
 generalize (q1b j a).getD [] = full at *
 generalize (q1b j a).isSome = ok at *
 rw [show (jget j q1d).getD zJ = gt j q1d from rfl] at hG
 generalize (jget j q1d).isSome = b at *
 generalize (gt j q0x).txt = nm at *
 generalize (gt j q1d).txt = sp at *
 generalize gt j q1d = x at *
 clear hRe hx3 hx4 hfl
 rw [JT.av_eq, q0m] at hT1 hT2 hG hA ⊢
 rw [JT.av_eq, q0m] at hG
 generalize j.kd = j1 at *
 generalize j.num = j2 at *
 generalize j.txt = j3 at *
 generalize j.its = j4 at *
 generalize j.keys = j5 at *
 rw [q0x, q2h [110, 97, 109, 101]] at hT1
 rw [q1d, q2h [110, 97, 109, 101, 115, 112, 97, 99, 101]] at hT2 hG
 unfold xW xN at hT1 hT2 hF1 hF2 hA ⊢
 unfold xF at hA
 cases b with
 | true =>
   simp only [if_true] at hE1 hR
   subst hE1
   refine VC.toldXF (And.intro @q0a @q0g) ent_124 [] Tryz.func124 rfl Tryz.ntmps124 fun hb hbL => ?_
   clear hb hbL
   refine q0c ?_
   refine q0i (And.intro @q0a @q0b) [1000000, 1000001] (hT1) ?_
   refine q0d (And.intro @q0a @q0b) ?_
   refine q0e (hG) ?_
   refine q0u ?_
   refine q0i (And.intro @q0a @q0b) [1000000, 1000001] (hT2) ?_
   refine q0d (And.intro @q0a @q0b) ?_
   refine q0e (hR) ?_
   refine q0c ?_
   refine q6x (hK) ?_
   refine q0c ?_
   refine q0i (And.intro @q0a @q0b) [1000000, 1000001] (hF1) ?_
   refine q0d (And.intro @q0a @q0b) ?_
   (refine AO.step fun K hK => ?_; simp only [go_sem, Int.reduceBEq, Int.reduceLE, Int.reduceLT, Int.reduceNeg, Nat.reduceAdd, Nat.reduceEqDiff, Nat.reduceLT, Nat.reduceLeDiff, Nat.reduceMul, Nat.reduceSub, reduceCtorEq, ↓reduceIte]; (first | refine q1m ?_ | skip))
   refine .inr (.inl ⟨_, [.agg [.c (.sl 10 (es.map EN.cells)), .c (.v (.int .i64 0))], .c (.v (.string (str full)))], [1000001], ⟨by rfl, by rfl, fun k x z h5 h6 => ?_, by rfl, hFi⟩, hK _ _ _ ?_⟩)
   · match k with
     | 0 =>
       obtain rfl := Option.some.inj h5
       obtain rfl := Option.some.inj h6
       refine View.agg rfl fun k x z h7 h8 => ?_
       match k with
       | 0 =>
         obtain rfl := Option.some.inj h7
         obtain rfl := Option.some.inj h8
         exact View.row (B := ⟨true, 40, 10, rA EN.cells es⟩) (es := es.map EN.cells) (by simp [q0b]) rfl (q0a _ _) (q4p _ _)
       | 1 =>
         obtain rfl := Option.some.inj h7
         obtain rfl := Option.some.inj h8
         exact .same _
       | k + 2 => simp at h7
     | 1 =>
       obtain rfl := Option.some.inj h5
       obtain rfl := Option.some.inj h6
       exact .same _
     | k + 2 => simp at h5
   clear hK K
   refine q0d (And.intro @q0a @q0b) ?_
   refine q0i (And.intro @q0a @q0b) [1000000, 1000001] (hF2) ?_
   refine q0d (And.intro @q0a @q0b) ?_
   refine AO.stepJw rfl (j5x _ _ _ _ _ _ _ _ [1000000, 1000001, 240] _ _ [false, false, true] rfl (by trivial) rfl ?_ ?_ (by simp) (by simp) ?_ ?_ hA) ?_
   · simp [okx, putd, upd, AV.okb]
   · simp only [q2w, q0a, q0b, go_sem, Int.reduceBEq, Int.reduceLE, Int.reduceLT, Int.reduceNeg, Nat.reduceAdd, Nat.reduceEqDiff, Nat.reduceLT, Nat.reduceLeDiff, Nat.reduceMul, Nat.reduceSub, reduceCtorEq, ↓reduceIte]
   · simp only [q0a, q0b, go_sem, Int.reduceBEq, Int.reduceLE, Int.reduceLT, Int.reduceNeg, Nat.reduceAdd, Nat.reduceEqDiff, Nat.reduceLT, Nat.reduceLeDiff, Nat.reduceMul, Nat.reduceSub, reduceCtorEq, ↓reduceIte]
   · exact ⟨rfl, trivial⟩
   simp only [wrK, wrM, q0a, q0b, go_sem, Int.reduceBEq, Int.reduceLE, Int.reduceLT, Int.reduceNeg, Nat.reduceAdd, Nat.reduceEqDiff, Nat.reduceLT, Nat.reduceLeDiff, Nat.reduceMul, Nat.reduceSub, reduceCtorEq, ↓reduceIte]
   refine q0d (And.intro @q0a @q0b) ?_
   refine q0j (@q0b) Tryz.results124 ?_
   exact .aggL (.cons (.c _) (.cons (.c _) (.cons (.c _) (.cons (.c _) (.cons (.nil 1) (.cons (.c _) (.cons (.c _) (.cons (.c _) (.cons (.c _) (.cons (.nil 1) .nil))))))))))
 | false =>
   simp only [Bool.false_eq_true, if_false] at hE1 hR
   subst hE1
   rw [q2h []] at hR
   refine VC.toldXF (And.intro @q0a @q0g) ent_124 [] Tryz.func124 rfl Tryz.ntmps124 fun hb hbL => ?_
   clear hb hbL
   refine q0c ?_
   refine q0i (And.intro @q0a @q0b) [1000000, 1000001] (hT1) ?_
   refine q0d (And.intro @q0a @q0b) ?_
   refine q0e (hG) ?_
   refine q0u ?_
   refine q0e (hR) ?_
   refine q0c ?_
   refine q6x (hK) ?_
   refine q0c ?_
   refine q0i (And.intro @q0a @q0b) [1000000, 1000001] (hF1) ?_
   refine q0d (And.intro @q0a @q0b) ?_
   (refine AO.step fun K hK => ?_; simp only [go_sem, Int.reduceBEq, Int.reduceLE, Int.reduceLT, Int.reduceNeg, Nat.reduceAdd, Nat.reduceEqDiff, Nat.reduceLT, Nat.reduceLeDiff, Nat.reduceMul, Nat.reduceSub, reduceCtorEq, ↓reduceIte]; (first | refine q1m ?_ | skip))
   refine .inr (.inl ⟨_, [.agg [.c (.sl 10 (es.map EN.cells)), .c (.v (.int .i64 0))], .c (.v (.string (str full)))], [1000001], ⟨by rfl, by rfl, fun k x z h5 h6 => ?_, by rfl, hFi⟩, hK _ _ _ ?_⟩)
   · match k with
     | 0 =>
       obtain rfl := Option.some.inj h5
       obtain rfl := Option.some.inj h6
       refine View.agg rfl fun k x z h7 h8 => ?_
       match k with
       | 0 =>
         obtain rfl := Option.some.inj h7
         obtain rfl := Option.some.inj h8
         exact View.row (B := ⟨true, 40, 10, rA EN.cells es⟩) (es := es.map EN.cells) (by simp [q0b]) rfl (q0a _ _) (q4p _ _)
       | 1 =>
         obtain rfl := Option.some.inj h7
         obtain rfl := Option.some.inj h8
         exact .same _
       | k + 2 => simp at h7
     | 1 =>
       obtain rfl := Option.some.inj h5
       obtain rfl := Option.some.inj h6
       exact .same _
     | k + 2 => simp at h5
   clear hK K
   refine q0d (And.intro @q0a @q0b) ?_
   refine q0i (And.intro @q0a @q0b) [1000000, 1000001] (hF2) ?_
   refine q0d (And.intro @q0a @q0b) ?_
   refine AO.stepJw rfl (j5x _ _ _ _ _ _ _ _ [1000000, 1000001, 208] _ _ [false, false, true] rfl (by trivial) rfl ?_ ?_ (by simp) (by simp) ?_ ?_ hA) ?_
   · simp [okx, putd, upd, AV.okb]
   · simp only [q2w, q0a, q0b, go_sem, Int.reduceBEq, Int.reduceLE, Int.reduceLT, Int.reduceNeg, Nat.reduceAdd, Nat.reduceEqDiff, Nat.reduceLT, Nat.reduceLeDiff, Nat.reduceMul, Nat.reduceSub, reduceCtorEq, ↓reduceIte]
   · simp only [q0a, q0b, go_sem, Int.reduceBEq, Int.reduceLE, Int.reduceLT, Int.reduceNeg, Nat.reduceAdd, Nat.reduceEqDiff, Nat.reduceLT, Nat.reduceLeDiff, Nat.reduceMul, Nat.reduceSub, reduceCtorEq, ↓reduceIte]
   · exact ⟨rfl, trivial⟩
   simp only [wrK, wrM, q0a, q0b, go_sem, Int.reduceBEq, Int.reduceLE, Int.reduceLT, Int.reduceNeg, Nat.reduceAdd, Nat.reduceEqDiff, Nat.reduceLT, Nat.reduceLeDiff, Nat.reduceMul, Nat.reduceSub, reduceCtorEq, ↓reduceIte]
   refine q0d (And.intro @q0a @q0b) ?_
   refine q0j (@q0b) Tryz.results124 ?_
   exact .aggL (.cons (.c _) (.cons (.c _) (.cons (.c _) (.cons (.c _) (.cons (.nil 1) (.cons (.c _) (.cons (.c _) (.cons (.c _) (.cons (.c _) (.cons (.nil 1) .nil))))))))))
/-- An object whose type is a text. -/
theorem z4n (es : List EN) (hl : es.length ≤ 200) (j : JT) (a : List UInt8) (hty : ((gt j q0k).kd != 4) = false) (V : List NT × Int × Int) (H : Int) (nd : Int → EN)
  (hH : ToldM Tryz.prog 124 [.ref 1000000 1 0 0, j.av, intV (q0h (gt j q0k).txt), strV a] [xW es.length 0, xN es] [some (xW es.length H), some (xN es)] (nd (q0h (gt j q0k).txt)).av)
  (h11 : q0h (gt j q0k).txt = 11 → q1o 122 es 0 [j.av, intV 11, strV q61, strV a] V)
  (h12 : q0h (gt j q0k).txt = 12 → q1o 122 es 0 [j.av, intV 12, strV q62, strV a] V)
  (h9 : q0h (gt j q0k).txt = 9 → q1o 123 es H [j.av, (nd 9).av] V)
  (h10 : q0h (gt j q0k).txt = 10 → q1o 125 es H [j.av, (nd 10).av] V)
  (h14 : q0h (gt j q0k).txt = 14 → q1o 126 es H [j.av, (nd 14).av] V)
  (hel : q0h (gt j q0k).txt ≠ 11 → q0h (gt j q0k).txt ≠ 12 → q0h (gt j q0k).txt ≠ 9 → q0h (gt j q0k).txt ≠ 10 → q0h (gt j q0k).txt ≠ 14 → q1o 70 es 0 [strV (gt j q0k).txt, strV a] V) :
  q1o 72 es 0 [j.av, strV a] V := by
 unfold q1o strV intV at *
 have hT := j1y es es.length rfl 0 j q0k
 rw [hty, show fl 0 false 30 = 0 from rfl] at hT
 have hK := j63 (gt j q0k).txt
 clear hty
 generalize (gt j q0k).txt = w at *
 obtain ⟨V1, V2, V3⟩ := V
 simp only [] at h11 h12 h9 h10 h14 hel ⊢
 generalize es ++ V1.map EN.of = es' at *
 have hcase : q0h w = 11 ∨ q0h w = 12 ∨ q0h w = 9 ∨ q0h w = 10 ∨ q0h w = 14 ∨ (q0h w ≠ 11 ∧ q0h w ≠ 12 ∧ q0h w ≠ 9 ∧ q0h w ≠ 10 ∧ q0h w ≠ 14) := by omega
 rw [JT.av_eq, q0m] at *
 generalize j.kd = j1 at *
 generalize j.num = j2 at *
 generalize j.txt = j3 at *
 generalize j.its = j4 at *
 generalize j.keys = j5 at *
 rw [q0k, q2h [116, 121, 112, 101]] at hT
 rw [q61, q2h [105, 116, 101, 109, 115]] at h11
 rw [q62, q2h [118, 97, 108, 117, 101, 115]] at h12
 unfold xW xN at *
 rcases hcase with hk | hk | hk | hk | hk | ⟨q1, q2, q3, q4, q5⟩
 · have hM := h11 hk
   rw [hk] at hK
   clear h11 h12 h9 h10 h14 hel hH
   refine VC.toldXF (And.intro @q0a @q0g) q8l [] Tryz.func72 rfl Tryz.ntmps72 fun hb hbL => ?_
   clear hb hbL
   refine q0c ?_
   refine q0i (And.intro @q0a @q0b) [1000000, 1000001] (hT) ?_
   refine q0f (And.intro @q0a @q0b) ?_
   refine q0e (hK) ?_
   refine q0f (And.intro @q0a @q0b) ?_
   refine q0i (And.intro @q0a @q0b) [1000000, 1000001] (hM) ?_
   refine q0d (And.intro @q0a @q0b) ?_
   refine q0j (@q0b) Tryz.results72 ?_
   exact .c _
 · have hM := h12 hk
   rw [hk] at hK
   clear h11 h12 h9 h10 h14 hel hH
   refine VC.toldXF (And.intro @q0a @q0g) q8l [] Tryz.func72 rfl Tryz.ntmps72 fun hb hbL => ?_
   clear hb hbL
   refine q0c ?_
   refine q0i (And.intro @q0a @q0b) [1000000, 1000001] (hT) ?_
   refine q0f (And.intro @q0a @q0b) ?_
   refine q0e (hK) ?_
   refine q0f (And.intro @q0a @q0b) ?_
   refine q0i (And.intro @q0a @q0b) [1000000, 1000001] (hM) ?_
   refine q0d (And.intro @q0a @q0b) ?_
   refine q0j (@q0b) Tryz.results72 ?_
   exact .c _
 · have hM := h9 hk
   rw [hk] at hK hH
   rw [EN.av_eq, q2v] at hM hH
   clear h11 h12 h9 h10 h14 hel
   generalize nd (9 : Nat) = n at *
   refine VC.toldXF (And.intro @q0a @q0g) q8l [] Tryz.func72 rfl Tryz.ntmps72 fun hb hbL => ?_
   clear hb hbL
   refine q0c ?_
   refine q0i (And.intro @q0a @q0b) [1000000, 1000001] (hT) ?_
   refine q0f (And.intro @q0a @q0b) ?_
   refine q0e (hK) ?_
   refine q0f (And.intro @q0a @q0b) ?_
   refine q0i (And.intro @q0a @q0b) [1000000, 1000001] (hH) ?_
   refine q0d (And.intro @q0a @q0b) ?_
   refine q0i (And.intro @q0a @q0b) [1000000, 1000001] (hM) ?_
   refine q0d (And.intro @q0a @q0b) ?_
   refine q0j (@q0b) Tryz.results72 ?_
   exact .c _
 · have hM := h10 hk
   rw [hk] at hK hH
   rw [EN.av_eq, q2v] at hM hH
   clear h11 h12 h9 h10 h14 hel
   generalize nd (10 : Nat) = n at *
   refine VC.toldXF (And.intro @q0a @q0g) q8l [] Tryz.func72 rfl Tryz.ntmps72 fun hb hbL => ?_
   clear hb hbL
   refine q0c ?_
   refine q0i (And.intro @q0a @q0b) [1000000, 1000001] (hT) ?_
   refine q0f (And.intro @q0a @q0b) ?_
   refine q0e (hK) ?_
   refine q0f (And.intro @q0a @q0b) ?_
   refine q0i (And.intro @q0a @q0b) [1000000, 1000001] (hH) ?_
   refine q0d (And.intro @q0a @q0b) ?_
   refine q0i (And.intro @q0a @q0b) [1000000, 1000001] (hM) ?_
   refine q0d (And.intro @q0a @q0b) ?_
   refine q0j (@q0b) Tryz.results72 ?_
   exact .c _
 · have hM := h14 hk
   rw [hk] at hK hH
   rw [EN.av_eq, q2v] at hM hH
   clear h11 h12 h9 h10 h14 hel
   generalize nd (14 : Nat) = n at *
   refine VC.toldXF (And.intro @q0a @q0g) q8l [] Tryz.func72 rfl Tryz.ntmps72 fun hb hbL => ?_
   clear hb hbL
   refine q0c ?_
   refine q0i (And.intro @q0a @q0b) [1000000, 1000001] (hT) ?_
   refine q0f (And.intro @q0a @q0b) ?_
   refine q0e (hK) ?_
   refine q0f (And.intro @q0a @q0b) ?_
   refine q0i (And.intro @q0a @q0b) [1000000, 1000001] (hH) ?_
   refine q0d (And.intro @q0a @q0b) ?_
   refine q0i (And.intro @q0a @q0b) [1000000, 1000001] (hM) ?_
   refine q0d (And.intro @q0a @q0b) ?_
   refine q0j (@q0b) Tryz.results72 ?_
   exact .c _
 · have hM := hel q1 q2 q3 q4 q5
   have hK' : ∃ k : Int, (q0h w : Int) = k ∧ (k == 11) = false ∧ (k == 12) = false ∧ (k == 9) = false ∧ (k == 10) = false ∧ (k == 14) = false := ⟨_, rfl, by simp; omega, by simp; omega, by simp; omega, by simp; omega, by simp; omega⟩
   obtain ⟨k, hkk, g1, g2, g3, g4, g5⟩ := hK'
   rw [hkk] at hK
   clear h11 h12 h9 h10 h14 hel hH hkk q1 q2 q3 q4 q5
   refine VC.toldXF (And.intro @q0a @q0g) q8l [] Tryz.func72 rfl Tryz.ntmps72 fun hb hbL => ?_
   clear hb hbL
   refine q0c ?_
   refine q0i (And.intro @q0a @q0b) [1000000, 1000001] (hT) ?_
   refine q0f (And.intro @q0a @q0b) ?_
   refine q0e (hK) ?_
   refine q0f (And.intro @q0a (And.intro @q0b (And.intro g1 (And.intro g2 (And.intro g3 (And.intro g4 g5)))))) ?_
   refine q0i (And.intro @q0a @q0b) [1000000, 1000001] (hM) ?_
   refine q0d (And.intro @q0a @q0b) ?_
   refine q0j (@q0b) Tryz.results72 ?_
   exact .c _

def q29 (e : Int) (x : JT) (fs : List FT) : Int := fl (q53 e x fs) (!(jget x q0k).isSome) 30
def q3o (fN : JT → List HN → BV) (hs : List HN) : List JT → List FT → List NT → Int → List FT × List NT × Int × Bool
 | [], fs, new, e => (fs, new, e, true)
 | x :: xs, fs, new, e => if e ≠ 0 then (fs, new, e, false)
   else q3o fN hs xs (fs ++ [{ q6i x with type := (q2e (fN (gt x q0k)) (hs ++ new.map q0p) (q29 e x fs)).2.1 }]) (new ++ (q2e (fN (gt x q0k)) (hs ++ new.map q0p) (q29 e x fs)).1) (q2e (fN (gt x q0k)) (hs ++ new.map q0p) (q29 e x fs)).2.2
def q45 (hs : List HN) (e : Int) (j : JT) : Int := fl (fl (fl e ((gt j q0q).kd != 5) 30) (decide (40 < (gt j q0q).its.length)) 3) (decide (200 ≤ hs.length)) 3
def q59 (fN : JT → List HN → BV) (hs : List HN) (e : Int) (j : JT) (n : NT) : BV :=
 if q45 hs e j ≠ 0 then ([], 0, q45 hs e j)
 else ({ n with fields := (q3o fN (hs ++ [q0p n]) (gt j q0q).its [] [] 0).1 } :: (q3o fN (hs ++ [q0p n]) (gt j q0q).its [] [] 0).2.1,
  if (q3o fN (hs ++ [q0p n]) (gt j q0q).its [] [] 0).2.2.2 = true then (hs.length : Int) else 0, (q3o fN (hs ++ [q0p n]) (gt j q0q).its [] [] 0).2.2.1)
def r0 (n : NT) : EN := ⟨n, .v (.slice none 0 0), .sl 1 (n.branches.map iPV)⟩
def rE (n : NT) (es : List EN) (new : List NT) : List EN := es ++ r0 n :: new.map EN.of
theorem q2x (n : NT) (es : List EN) (new : List NT) : (rE n es new).length = es.length + 1 + new.length := by simp [rE]; omega
theorem q7a (n : NT) (es : List EN) (new : List NT) : (rE n es new)[es.length]? = some (r0 n) := by
 unfold rE
 rw [List.getElem?_append_right (Nat.le_refl _), Nat.sub_self]
 rfl
theorem rE_app (n : NT) (es : List EN) (new m : List NT) : rE n es new ++ m.map EN.of = rE n es (new ++ m) := by simp [rE]
theorem rE_hs (n : NT) (es : List EN) (new : List NT) : hsE (rE n es new) = hsE es ++ [q0p n] ++ new.map q0p := by
 unfold rE hsE
 rw [List.map_append, List.map_cons, List.map_map, List.append_assoc]
 rfl
theorem rC_eq (n : NT) (r m : Nat) : opF (r0 n) r m = [.c (.v (.int .i64 n.kind)), .c (.v (.string (str n.name))), .c (.sl 1 (n.aliases.map sPV)), .row r m, .c (.sl 1 (n.symbols.map sPV)), .c (.v (.bool n.has)), .c (.v (.string (str n.dflt))), .c (.v (.int .i64 n.size)), .c (.v (.int .i64 n.items)), .c (.sl 1 (n.branches.map iPV))] := rfl
theorem rE_done (n : NT) (es : List EN) (new : List NT) (fs : List FT) : (rA EN.cells (rE n es new)).set es.length [.c (.v (.int .i64 n.kind)), .c (.v (.string (str n.name))), .c (.sl 1 (n.aliases.map sPV)), .c (.sl 9 (fs.map FT.cells)), .c (.sl 1 (n.symbols.map sPV)), .c (.v (.bool n.has)), .c (.v (.string (str n.dflt))), .c (.v (.int .i64 n.size)), .c (.v (.int .i64 n.items)), .c (.sl 1 (n.branches.map iPV))] = rA EN.cells (es ++ ({ n with fields := fs } :: new).map EN.of) := by
 have h := q69 (f := EN.cells) (rE n es new) es.length (EN.of { n with fields := fs })
 unfold rE at h ⊢
 rw [List.set_append_right _ _ (Nat.le_refl _), Nat.sub_self, List.set_cons_zero] at h
 exact h
theorem rFB {h : Nat → Option Blkd} (L : Nat) (n : NT) (es : List EN) (new : List NT) (fs : List FT) {R : List EN} (hR : R = es ++ ({ n with fields := fs } :: new).map EN.of) (hB : h L = some ⟨true, 72, 9, rA FT.cells fs⟩) :
  FB [L] h ⟨true, 40, 10, (rA EN.cells (rE n es new)).set es.length (opF (r0 n) L fs.length)⟩ ⟨true, 40, 10, rA EN.cells R⟩ := by
 have hat : ((rA EN.cells (rE n es new)).set es.length (opF (r0 n) L fs.length))[es.length]? = some (opF (r0 n) L fs.length) := List.getElem?_set_self (by rw [q0a, q2x]; omega)
 have h := FB.set (F := [L]) (h := h) (row := true) (T := 40) (z := 10) hat
  (e' := [.c (.v (.int .i64 n.kind)), .c (.v (.string (str n.name))), .c (.sl 1 (n.aliases.map sPV)), .c (.sl 9 (fs.map FT.cells)), .c (.sl 1 (n.symbols.map sPV)), .c (.v (.bool n.has)), .c (.v (.string (str n.dflt))), .c (.v (.int .i64 n.size)), .c (.v (.int .i64 n.items)), .c (.sl 1 (n.branches.map iPV))])
  (.cons (.same _) (.cons (.same _) (.cons (.same _) (.cons (.row (B := ⟨true, 72, 9, rA FT.cells fs⟩) (es := fs.map FT.cells) (by simp) hB rfl (q0a _ _) (q4p _ _)) (FVL.same _ _ _))))) (by simp [AV.cellish])
 rw [List.set_set, rE_done, ← hR] at h
 exact h
theorem rOpen {f : FuncId} {args : List AV} {y : AV} (n : NT) (es : List EN) (new : List NT) (fs : List FT) (e e' : Int) (m : List NT) (hy : ∀ used h, Sc used h y)
  (hT : ∀ E : List EN, E.length = es.length + 1 + new.length → hsE E = hsE es ++ [q0p n] ++ new.map q0p → ToldM Tryz.prog f args [xW E.length e, xN E] [some (xW (E ++ m.map EN.of).length e'), some (xN (E ++ m.map EN.of))] y) :
  ToldM Tryz.prog f args [xW (es.length + 1 + new.length) e, xNF (rE n es new) es.length (r0 n) 1000002 fs.length, xFs fs] [some (xW (es.length + 1 + (new ++ m).length) e'), some (xNF (rE n es (new ++ m)) es.length (r0 n) 1000002 fs.length), some (xFs fs)] y := by
 have h := z1n (q7a n es new) (xFs fs) rfl (j5u fs) (f := f) (args := args) (y := y) (es.length + 1 + new.length) (es.length + 1 + (new ++ m).length) e e' m (by rw [q2x, List.length_append]; omega) hy (fun x => by
  have h1 := hT ((rE n es new).set es.length ((r0 n).wf (.v x))) (by rw [List.length_set, q2x]) (by rw [q8r (q7a n es new) ((r0 n).wf (.v x)) rfl, rE_hs])
  rw [q5q, List.length_set, q2x] at h1
  rw [List.length_append, ← Nat.add_assoc]
  exact h1)
 rw [rE_app, j5t] at h
 exact h
theorem z4c (n : NT) (es : List EN) (hl : es.length < 200) : ToldM Tryz.prog 117 [.ref 1000000 1 0 0, (r0 n).av] [xW es.length 0, xN es]
  [some (xW (es.length + 1) 0), some (xN (rE n es []))] (.c (.v (.int .i64 (es.length : Int)))) := by
 have h := j32 es (by omega) 0 (r0 n)
 rw [show decide (200 ≤ es.length) = false by simp; omega, show fl 0 false 3 = 0 from rfl, if_pos rfl, if_pos rfl, List.length_append] at h
 exact h

theorem z4s (es : List EN) (hl : es.length < 200) (j : JT) (hk5 : (gt j q0q).kd = 5) (h40 : (gt j q0q).its.length ≤ 40) (n : NT) (hnl : n.name.length ≤ 1000000000) (fN : JT → List HN → BV)
  (hK : ∀ x ∈ (gt j q0q).its, ∀ t, jget x q0k = some t → KidOk (q1n n.name) t (fN t))
  (hb1 : ∀ x ∈ (gt j q0q).its, (gt x q0x).txt.length ≤ 100000000) (hb2 : ∀ x ∈ (gt j q0q).its, (gt x q0z).its.length ≤ 1000000) (hb3 : ∀ x ∈ (gt j q0q).its, ∀ y ∈ (gt x q0z).its, y.txt.length ≤ 100000000) :
  q1o 123 es 0 [j.av, (r0 n).av] (q59 fN (hsE es) 0 j n) := by
 have hsl : (hsE es).length = es.length := by rw [hsE, List.length_map]
 have hE0 : q45 (hsE es) 0 j = 0 := by
  unfold q45
  rw [hk5, show decide (40 < (gt j q0q).its.length) = false by simp; omega, show decide (200 ≤ (hsE es).length) = false by simp; omega]
  rfl
 unfold q59
 rw [if_neg (by rw [hE0]; simp), hsl]
 have hG := q44 j q0q
 rw [show (jget j q0q).getD zJ = gt j q0q from rfl] at hG
 generalize (jget j q0q).isSome = bj at *
 generalize gt j q0q = w at *
 obtain ⟨l, hl'⟩ : ∃ l, l = w.its := ⟨_, rfl⟩
 rw [← hl'] at hK hb1 hb2 hb3 h40 ⊢
 obtain ⟨G, hGG⟩ : ∃ G, G = q3o fN (hsE es ++ [q0p n]) l [] [] 0 := ⟨_, rfl⟩
 rw [← hGG]
 unfold q1o
 obtain ⟨G1, G2, G3, G4⟩ := G
 simp only []
 obtain ⟨R, hR⟩ : ∃ R, R = es ++ ({ n with fields := G1 } :: G2).map EN.of := ⟨_, rfl⟩
 obtain ⟨Pl, hPl⟩ : ∃ Pl : Int, Pl = if G4 = true then (es.length : Int) else 0 := ⟨_, rfl⟩
 have hRl : R.length = es.length + 1 + G2.length := by rw [hR]; simp; omega
 rw [← hR, ← hPl, hRl]
 have hFr := z4c n es hl
 have hF1 := q2j es es.length rfl 0 30 false
 rw [show fl 0 false 30 = 0 from rfl] at hF1
 have hF2 := q2j es es.length rfl 0 3 false
 rw [show fl 0 false 3 = 0 from rfl] at hF2
 have hd2 : decide ((l.length : Int) > 40) = false := by simp; omega
 have hSp := z2r n.name hnl
 have hscU : ∀ (new : List NT) (r m : Nat) {used : Nat → Prop} {h : Nat → Option Blkd}, (∀ e ∈ (rA EN.cells (rE n es new)).set es.length (opF (r0 n) r m), ∀ x ∈ e, Sc used h x) = Sc used h (.row r m) := fun new r m {used} {h} => (q4z (by rw [q2x]; omega) _).trans (j2r (r0 n) r m)
 have hat0 : (rA EN.cells (rE n es []))[es.length]? = some ((r0 n).cells.map .c) := q4j (q7a n es [])
 have hlen0 : (rE n es []).length = es.length + 1 := q2x n es []
 rw [EN.av_eq, q2v] at hFr ⊢
 rw [JT.av_eq w, q0m w, hk5, ← hl'] at hG
 rw [JT.av_eq, q0m] at hG ⊢
 generalize j.kd = j1 at *
 generalize j.num = j2 at *
 generalize j.txt = j3 at *
 generalize j.its = j4 at *
 generalize j.keys = j5 at *
 generalize w.num = w2 at *
 generalize w.txt = w3 at *
 generalize w.keys = w5 at *
 rw [q0q, q2h [102, 105, 101, 108, 100, 115]] at hG
 clear hE0 hsl hk5
 unfold xW xN at hFr hF1 hF2 ⊢
 refine VC.toldXF (And.intro @q0a (And.intro @q0g hRl)) ent_123 [] Tryz.func123 rfl Tryz.ntmps123 fun hb hbL => ?_
 clear hb hbL
 refine q0c ?_
 refine q0e (hG) ?_
 refine q0c ?_
 refine q0i (And.intro @q0a @q0b) [1000000, 1000001] (hF1) ?_
 refine q0d (And.intro @q0a (And.intro @q0b hd2)) ?_
 refine q0i (And.intro @q0a @q0b) [1000000, 1000001] (hF2) ?_
 refine q0d (And.intro @q0a @q0b) ?_
 refine q0i (And.intro @q0a @q0b) [1000000, 1000001] (hFr) ?_
 refine q0d (And.intro @q0a @q0b) ?_
 refine VC.nilR 1000001 es.length 3 72 9 ⟨true, 40, 10, rA EN.cells (rE n es [])⟩ ((r0 n).cells.map .c) (by simp only [go_sem, simprocAttr, q0b]) hat0 rfl (by rfl) ?_
 refine VC.loop (ι := {q : Nat × List FT × List NT × Int // q.1 ≤ l.length ∧ q.2.1.length = q.1 ∧ es.length + 1 + q.2.2.1.length ≤ 200 ∧ (G1, G2, G3, G4) = q3o fN (hsE es ++ [q0p n]) (l.drop q.1) q.2.1 q.2.2.1 q.2.2.2})
  (fun q => [(0, .ref 1000000 1 0 0), (5, .ref 8 1 0 0), (6, .c (.v (.int .i64 0))), (9, .c (.v (.int .i64 (es.length : Int)))), (35, .c (.sl 5 (l.map JT.cells))), (36, .c (.v (.int .i64 (l.length : Int)))), (37, .c (.v (.int .i64 (q.1.1 : Int))))])
  (fun q => [(1000000, ⟨false, 60, 3, [[.row 1000001 (es.length + 1 + q.1.2.2.1.length), .c (.v (.int .i64 0)), .c (.v (.int .i64 q.1.2.2.2))]]⟩), (1000001, ⟨true, 40, 10, (rA EN.cells (rE n es q.1.2.2.1)).set es.length (opF (r0 n) 240 q.1.2.1.length)⟩), (240, ⟨true, 72, 9, rA FT.cells q.1.2.1⟩),
   (8, ⟨false, 40, 10, [[.c (.v (.int .i64 n.kind)), .c (.v (.string (str n.name))), .c (.sl 1 (n.aliases.map sPV)), .c (.v (.slice none 0 0)), .c (.sl 1 (n.symbols.map sPV)), .c (.v (.bool n.has)), .c (.v (.string (str n.dflt))), .c (.v (.int .i64 n.size)), .c (.v (.int .i64 n.items)), .c (.sl 1 (n.branches.map iPV))]]⟩)]) 2000 (fun q => l.length - q.1.1)
  ⟨(0, [], [], 0), Nat.zero_le _, rfl, by simp; omega, by rw [List.drop_zero]; exact hGG⟩ ?_ ?_
 · refine q1l (And.intro @q0a (And.intro @q0g (And.intro @q0b (And.intro @q0s (And.intro @q2x (And.intro @q32 hscU)))))) ?_
   exact ⟨⟨rfl, rfl⟩, Nat.le_refl _⟩
 rintro ⟨⟨i, fs, new, e⟩, hi, hkl, hnw, hGi⟩
 simp only [] at hi hkl hnw hGi ⊢
 have hlen : (rE n es new).length = es.length + 1 + new.length := q2x n es new
 refine q0c ?_
 refine VC.cond (by rfl) (by trivial) (fun hc => ?_) (fun hc => ?_)
 rotate_left
 · have hie : i = l.length := by simp at hc; omega
   rw [hie, List.drop_length] at hGi
   unfold q3o at hGi
   injection hGi with g1 hGi
   injection hGi with g2 hGi
   injection hGi with g3 g4
   subst g1 g2 g3 g4
   rw [if_pos rfl] at hPl
   subst hPl
   refine VC.frz [240] [(9, .c (.v (.int .i64 (es.length : Int))))] [(1000001, ⟨true, 40, 10, rA EN.cells R⟩), (1000000, ⟨false, 60, 3, [[.row 1000001 (es.length + 1 + G2.length), .c (.v (.int .i64 0)), .c (.v (.int .i64 G3))]]⟩)] 3000 ?_ ?_
   · refine q6y (And.intro @q0a (And.intro @q0g (And.intro @q0b (And.intro @q0v (And.intro @q1k hRl))))) ?_
     exact ⟨.same _, ⟨rFB 240 n es G2 G1 hR (by rfl), .same _⟩, Nat.le_refl _⟩
   refine q0c ?_
   refine q0j (@q0b) Tryz.results123 ?_
   exact .c _
 · have hlt : i < l.length := by simp at hc; omega
   obtain ⟨x, hx⟩ : ∃ x, l[i]? = some x := ⟨l[i], List.getElem?_eq_getElem hlt⟩
   have hxm := List.mem_of_getElem? hx
   have hwi : IntKind.i64.wrap ((i : Int) + 1) = (i : Int) + 1 := q0w (by omega) (by omega)
   have hdr : l.drop i = x :: l.drop (i + 1) := by
    obtain ⟨h5, h6⟩ := List.getElem?_eq_some_iff.1 hx
    rw [List.drop_eq_getElem_cons h5, h6]
   rw [hdr] at hGi
   unfold q3o at hGi
   have hxp : (l.map JT.cells)[i]? = some x.cells := by rw [List.getElem?_map, hx]; rfl
   rw [q0m x] at hxp
   have hilt : (i : Int) < (l.length : Int) := by omega
   by_cases he : e ≠ 0
   · rw [if_pos he] at hGi
     injection hGi with g1 hGi
     injection hGi with g2 hGi
     injection hGi with g3 g4
     subst g1 g2 g3 g4
     rw [if_neg (by simp)] at hPl
     subst hPl
     have hq : (G3 != 0) = true := by simpa using he
     refine VC.frz [240] [(0, .ref 1000000 1 0 0), (35, .c (.sl 5 (l.map JT.cells))), (37, .c (.v (.int .i64 (i : Int))))] [(1000001, ⟨true, 40, 10, rA EN.cells R⟩), (1000000, ⟨false, 60, 3, [[.row 1000001 (es.length + 1 + G2.length), .c (.v (.int .i64 0)), .c (.v (.int .i64 G3))]]⟩)] 3000 ?_ ?_
     · refine q6y (And.intro @q0a (And.intro @q0g (And.intro @q0b (And.intro @q0v (And.intro @q1k hRl))))) ?_
       exact ⟨⟨.same _, .same _, .same _⟩, ⟨rFB 240 n es G2 G1 hR (by rfl), .same _⟩, Nat.le_refl _⟩
     refine q0f (And.intro hxp (And.intro hilt hq)) ?_
     refine q0j (@q0b) Tryz.results123 ?_
     exact .c _
   · have he0 : e = 0 := by omega
     subst he0
     rw [if_neg he] at hGi
     have hFd := z4a (q7a n es new) fs (by omega) 0 x (hb1 x hxm) (hb2 x hxm) (hb3 x hxm)
     rw [hlen] at hFd
     have hG2 := q44 x q0k
     rw [show (jget x q0k).getD zJ = gt x q0k from rfl] at hG2
     have hF3 := rOpen n es new fs (q53 0 x fs) (q29 0 x fs) [] (f := 36) (args := [.ref 1000000 1 0 0, .c (.v (.bool (!(jget x q0k).isSome))), .c (.v (.int .i64 30))]) (y := .tup []) (fun _ _ => .tup (by simp)) (fun E _ _ => by
      simp only [List.map_nil, List.append_nil]
      exact q2j E E.length rfl (q53 0 x fs) 30 (!(jget x q0k).isSome))
     rw [List.append_nil] at hF3
     have hhl : (hsE es ++ [q0p n] ++ new.map q0p).length = es.length + 1 + new.length := by simp [hsE]; omega
     have hkx : q29 0 x fs = 0 → KidOk (q1n n.name) (gt x q0k) (fN (gt x q0k)) := fun h0 => by
      have hs : (jget x q0k).isSome = true := by
       cases hb : (jget x q0k).isSome with
       | true => rfl
       | false =>
         unfold q29 fl at h0
         rw [hb] at h0
         split at h0
         · exact absurd h0 (by assumption)
         · simp at h0
      obtain ⟨t, ht⟩ := Option.isSome_iff_exists.1 hs
      have hg : gt x q0k = t := by unfold gt; rw [ht]; rfl
      rw [hg]
      exact hK x hxm t ht
     obtain ⟨f1, hf1⟩ : ∃ f1, f1 = (gt x q0x).txt := ⟨_, rfl⟩
     obtain ⟨f2, hf2⟩ : ∃ f2, f2 = q3i x id := ⟨_, rfl⟩
     obtain ⟨f4, hf4⟩ : ∃ f4, f4 = (jget x q1q).isSome := ⟨_, rfl⟩
     obtain ⟨f5, hf5⟩ : ∃ f5, f5 = gt x q1q := ⟨_, rfl⟩
     have hff : q6i x = ⟨f1, f2, 0, f4, f5⟩ := by rw [hf1, hf2, hf4, hf5]; rfl
     rw [hff] at hFd hGi
     clear hff hf1 hf2 hf4 hf5
     rw [FT.av_eq, FT.cells, q0m f5] at hFd
     simp only [] at hFd hGi
     have hone : ∀ y : Int, rA FT.cells fs ++ [[.c (.v (.string (str f1))), .c (.sl 1 (f2.map sPV)), .c (.v (.int .i64 y)), .c (.v (.bool f4)), .c (.v (.int .i64 f5.kd)), .c (.v (.int .i64 f5.num)), .c (.v (.string (str f5.txt))), .c (.sl 5 (f5.its.map JT.cells)), .c (.sl 1 (f5.keys.map sPV))]] = rA FT.cells (fs ++ [⟨f1, f2, y, f4, f5⟩]) := fun y => by
      have h := q58 FT.cells fs ⟨f1, f2, y, f4, f5⟩
      rw [FT.cells, q0m f5] at h
      exact h
     have hat : ∀ new : List NT, ((rA EN.cells (rE n es new)).set es.length (opF (r0 n) 240 fs.length))[es.length]? = some [.c (.v (.int .i64 n.kind)), .c (.v (.string (str n.name))), .c (.sl 1 (n.aliases.map sPV)), .row 240 fs.length, .c (.sl 1 (n.symbols.map sPV)), .c (.v (.bool n.has)), .c (.v (.string (str n.dflt))), .c (.v (.int .i64 n.size)), .c (.v (.int .i64 n.items)), .c (.sl 1 (n.branches.map iPV))] := fun new => (List.getElem?_set_self (by rw [q0a, q2x]; omega)).trans (congrArg some (rC_eq n 240 fs.length))
     have h0l : (0 : Int) ≤ (es.length : Int) := by omega
     have hll : ∀ new : List NT, (es.length : Int) < ((es.length + 1 + new.length : Nat) : Int) := fun new => by omega
     generalize q29 0 x fs = e1 at *
     generalize q53 0 x fs = ef at *
     generalize (jget x q0k).isSome = bt at *
     generalize gt x q0k = t at *
     clear hb1 hb2 hb3
     rw [JT.av_eq x, q0m x] at hFd hG2
     generalize x.kd = x1 at *
     generalize x.num = x2 at *
     generalize x.txt = x3 at *
     generalize x.its = x4 at *
     generalize x.keys = x5 at *
     rw [q0k, q2h [116, 121, 112, 101]] at hG2
     unfold xW xNF xFs at hFd hF3
     by_cases h1 : e1 = 0
     · subst h1
       have hkk := hkx rfl
       have hst : q2e (fN t) (hsE es ++ [q0p n] ++ new.map q0p) 0 = fN t (hsE es ++ [q0p n] ++ new.map q0p) := by unfold q2e; rw [if_neg (by simp)]
       rw [hst] at hGi
       have hvl := hkk.len (hsE es ++ [q0p n] ++ new.map q0p) (by rw [hhl]; exact hnw)
       rw [hhl] at hvl
       have hN := fun (hsc : ∀ used h, Sc used h (intV (fN t (hsE es ++ [q0p n] ++ new.map q0p)).2.1)) => rOpen n es new fs 0 (fN t (hsE es ++ [q0p n] ++ new.map q0p)).2.2 (fN t (hsE es ++ [q0p n] ++ new.map q0p)).1 hsc (f := 35) (args := [.ref 1000000 1 0 0, t.av, strV (q1n n.name)]) (fun E hEl hEh => by
        have h := hkk.told E (by rw [hEl]; exact hnw)
        rw [hEh] at h
        exact h)
       replace hN := hN (fun _ _ => .c)
       generalize fN t (hsE es ++ [q0p n] ++ new.map q0p) = V at *
       obtain ⟨V1, V2, V3⟩ := V
       simp only [] at hN hGi hvl
       have hlen2 : (rE n es (new ++ V1)).length = es.length + 1 + (new ++ V1).length := q2x n es (new ++ V1)
       unfold xW xNF xFs intV strV at hN
       rw [JT.av_eq t, q0m t] at hG2 hN
       have hone0 := hone V2
       have hatn := hat new
       have hlln := hll new
       have hatm := hat (new ++ V1)
       have hllm := hll (new ++ V1)
       refine q0f (And.intro hxp (And.intro hilt (And.intro hatn (And.intro h0l (And.intro hlln (And.intro @q0s (And.intro @q0a hlen))))))) ?_
       refine q0i (And.intro @q0a (And.intro @q0b (And.intro @q0v (And.intro @q1k (And.intro @q0s hlen))))) [1000000, 1000001, 240] (hFd) ?_
       refine q0d (And.intro @q0s (And.intro @q0a (And.intro @q0b (And.intro @q0v (And.intro @q1k hlen))))) ?_
       refine q0e (hG2) ?_
       refine q0d (And.intro @q0s (And.intro @q0a (And.intro @q0b (And.intro @q0v (And.intro @q1k hlen))))) ?_
       refine q0i (And.intro @q0a (And.intro @q0b (And.intro @q0v (And.intro @q1k (And.intro @q0s hlen))))) [1000000, 1000001, 240] (hF3) ?_
       refine q0f (And.intro @q0s (And.intro @q0a (And.intro @q0b (And.intro @q0v (And.intro @q1k hlen))))) ?_
       refine q0e (hSp) ?_
       refine q0d (And.intro @q0s (And.intro @q0a (And.intro @q0b (And.intro @q0v (And.intro @q1k hlen))))) ?_
       refine q0i (And.intro @q0a (And.intro @q0b (And.intro @q0v (And.intro @q1k (And.intro @q0s (And.intro hlen hlen2)))))) [1000000, 1000001, 240] (hN) ?_
       refine q0f (And.intro @q0s (And.intro @q0a (And.intro @q0b (And.intro @q0v (And.intro @q1k (And.intro hlen2 (And.intro hatm (And.intro h0l (And.intro hllm (And.intro hone0 (And.intro @q8u hwi))))))))))) ?_
       refine .next ⟨(i + 1, fs ++ [⟨f1, f2, V2, f4, f5⟩], new ++ V1, V3), by simp only []; omega, by simp only [List.length_append, List.length_singleton]; omega, by simp only [List.length_append]; omega, hGi⟩ ?_ (by simp only []; omega)
       refine q1l (And.intro @q0a (And.intro @q0g (And.intro @q0b (And.intro @q0v (And.intro @q1k (And.intro @q0s (And.intro hlen2 (And.intro hscU (And.intro @q7r @q8v))))))))) ?_
       exact ⟨cI (by omega), rfl, Nat.le_refl _, Nat.le_refl _⟩
     · have hst : q2e (fN t) (hsE es ++ [q0p n] ++ new.map q0p) e1 = ([], 0, e1) := by unfold q2e; rw [if_pos h1]
       rw [hst] at hGi
       simp only [List.append_nil] at hGi
       rw [JT.av_eq t, q0m t] at hG2
       have hq : (e1 == 0) = false := by simpa using h1
       have hone0 := hone 0
       have hatn := hat new
       have hlln := hll new
       refine q0f (And.intro hxp (And.intro hilt (And.intro hatn (And.intro h0l (And.intro hlln (And.intro @q0s (And.intro @q0a hlen))))))) ?_
       refine q0i (And.intro @q0a (And.intro @q0b (And.intro @q0v (And.intro @q1k (And.intro @q0s hlen))))) [1000000, 1000001, 240] (hFd) ?_
       refine q0d (And.intro @q0s (And.intro @q0a (And.intro @q0b (And.intro @q0v (And.intro @q1k hlen))))) ?_
       refine q0e (hG2) ?_
       refine q0d (And.intro @q0s (And.intro @q0a (And.intro @q0b (And.intro @q0v (And.intro @q1k hlen))))) ?_
       refine q0i (And.intro @q0a (And.intro @q0b (And.intro @q0v (And.intro @q1k (And.intro @q0s hlen))))) [1000000, 1000001, 240] (hF3) ?_
       refine q0f (And.intro @q0s (And.intro @q0a (And.intro @q0b (And.intro @q0v (And.intro @q1k (And.intro hlen (And.intro hq (And.intro hatn (And.intro h0l (And.intro hlln (And.intro hone0 (And.intro @q8u hwi)))))))))))) ?_
       refine .next ⟨(i + 1, fs ++ [⟨f1, f2, 0, f4, f5⟩], new, e1), by simp only []; omega, by simp only [List.length_append, List.length_singleton]; omega, hnw, hGi⟩ ?_ (by simp only []; omega)
       refine q1l (And.intro @q0a (And.intro @q0g (And.intro @q0b (And.intro @q0v (And.intro @q1k (And.intro @q0s (And.intro hlen (And.intro hscU (And.intro @q7r @q8v))))))))) ?_
       exact ⟨cI (by omega), rfl, Nat.le_refl _, Nat.le_refl _⟩

theorem z4r (es : List EN) (hl : es.length ≤ 200) (e : Int) (j : JT) (n : NT) (h3 : q45 (hsE es) e j ≠ 0) :
  q1o 123 es e [j.av, (r0 n).av] ([], 0, q45 (hsE es) e j) := by
 have hsl : (hsE es).length = es.length := by rw [hsE, List.length_map]
 have hG := q44 j q0q
 rw [show (jget j q0q).getD zJ = gt j q0q from rfl] at hG
 have hF1 := q2j es es.length rfl e 30 ((gt j q0q).kd != 5)
 have hF2 := q2j es es.length rfl (fl e ((gt j q0q).kd != 5) 30) 3 (decide (40 < (gt j q0q).its.length))
 have hFr := j32 es hl (fl (fl e ((gt j q0q).kd != 5) 30) (decide (40 < (gt j q0q).its.length)) 3) (r0 n)
 unfold q45 at h3 ⊢
 rw [hsl] at h3 ⊢
 rw [if_neg h3, if_neg h3] at hFr
 have hgt : decide (((gt j q0q).its.length : Int) > 40) = decide (40 < (gt j q0q).its.length) := decide_eq_decide.2 (by omega)
 generalize fl (fl (fl e ((gt j q0q).kd != 5) 30) (decide (40 < (gt j q0q).its.length)) 3) (decide (200 ≤ es.length)) 3 = e3 at *
 generalize fl (fl e ((gt j q0q).kd != 5) 30) (decide (40 < (gt j q0q).its.length)) 3 = e2 at *
 generalize fl e ((gt j q0q).kd != 5) 30 = e1 at *
 generalize decide (40 < (gt j q0q).its.length) = bg at *
 generalize (jget j q0q).isSome = bj at *
 generalize gt j q0q = w at *
 unfold q1o
 simp only [List.map_nil, List.append_nil]
 have hq : (e3 != 0) = true := by simpa using h3
 rw [EN.av_eq, q2v] at hFr ⊢
 rw [JT.av_eq w, q0m w] at hG
 rw [JT.av_eq, q0m] at hG ⊢
 generalize j.kd = j1 at *
 generalize j.num = j2 at *
 generalize j.txt = j3 at *
 generalize j.its = j4 at *
 generalize j.keys = j5 at *
 generalize w.kd = w1 at *
 generalize w.num = w2 at *
 generalize w.txt = w3 at *
 generalize w.its = l at *
 generalize w.keys = w5 at *
 rw [q0q, q2h [102, 105, 101, 108, 100, 115]] at hG
 unfold xW xN at hFr hF1 hF2 ⊢
 refine VC.toldXF (And.intro @q0a @q0g) ent_123 [] Tryz.func123 rfl Tryz.ntmps123 fun hb hbL => ?_
 clear hb hbL
 refine q0c ?_
 refine q0e (hG) ?_
 refine q0c ?_
 refine q0i (And.intro @q0a @q0b) [1000000, 1000001] (hF1) ?_
 refine q0d (And.intro @q0a (And.intro @q0b hgt)) ?_
 refine q0i (And.intro @q0a @q0b) [1000000, 1000001] (hF2) ?_
 refine q0d (And.intro @q0a @q0b) ?_
 refine q0i (And.intro @q0a @q0b) [1000000, 1000001] (hFr) ?_
 refine q0d (And.intro @q0a @q0b) ?_
 refine VC.loop (ι := {i : Nat // i = 0}) (fun q => [(0, .ref 1000000 1 0 0), (6, .c (.v (.int .i64 0))), (9, .c (.v (.int .i64 0))), (35, .c (.sl 5 (l.map JT.cells))), (36, .c (.v (.int .i64 (l.length : Int)))), (37, .c (.v (.int .i64 0)))])
  (fun q => [(1000000, ⟨false, 60, 3, [[.row 1000001 es.length, .c (.v (.int .i64 0)), .c (.v (.int .i64 e3))]]⟩), (1000001, ⟨true, 40, 10, rA EN.cells es⟩)]) 2000 (fun q => 0) ⟨0, rfl⟩ ?_ ?_
 · refine q1l (And.intro @q0a (And.intro @q0g @q0b)) ?_
   exact Nat.le_refl _
 rintro ⟨i, hi⟩
 subst hi
 refine q0c ?_
 refine VC.cond (by rfl) (by trivial) (fun hc => ?_) (fun hc => ?_)
 · have hlt : 0 < l.length := by simp at hc; omega
   obtain ⟨x, hx⟩ : ∃ x, l[0]? = some x := ⟨l[0], List.getElem?_eq_getElem hlt⟩
   have hxp : (l.map JT.cells)[0]? = some x.cells := by rw [List.getElem?_map, hx]; rfl
   have hll : (0 : Int) < (l.length : Int) := by omega
   rw [q0m x] at hxp
   refine q0f (And.intro hxp (And.intro hll (And.intro hq (And.intro @q0a @q0b)))) ?_
   refine q0j (@q0b) Tryz.results123 ?_
   exact .c _
 · refine q0d (And.intro @q0a @q0b) ?_
   refine q0j (@q0b) Tryz.results123 ?_
   exact .c _
theorem z4q (es : List EN) (hl : es.length ≤ 200) (e : Int) (j : JT) (n : NT) (hnl : n.name.length ≤ 1000000000) (fN : JT → List HN → BV)
  (hK : (gt j q0q).kd = 5 → ∀ x ∈ (gt j q0q).its, ∀ t, jget x q0k = some t → KidOk (q1n n.name) t (fN t))
  (hb1 : ∀ x ∈ (gt j q0q).its, (gt x q0x).txt.length ≤ 100000000) (hb2 : ∀ x ∈ (gt j q0q).its, (gt x q0z).its.length ≤ 1000000) (hb3 : ∀ x ∈ (gt j q0q).its, ∀ y ∈ (gt x q0z).its, y.txt.length ≤ 100000000) :
  q1o 123 es e [j.av, (r0 n).av] (q59 fN (hsE es) e j n) := by
 by_cases h : q45 (hsE es) e j = 0
 · have h1 := h
   unfold q45 at h1
   have hsl : (hsE es).length = es.length := by rw [hsE, List.length_map]
   rw [hsl] at h1
   have fl0 : ∀ {e : Int} {b : Bool} {c : Int}, c ≠ 0 → fl e b c = 0 → e = 0 ∧ b = false := fun {e b c} hc h => by
    by_cases he : e = 0
    · subst he
      rw [fl_ok] at h
      cases b with
      | true => exact absurd (by simpa using h) hc
      | false => exact ⟨rfl, rfl⟩
    · rw [q1i _ _ _ he] at h
      exact absurd h he
   obtain ⟨h2, h3⟩ := fl0 (by decide) h1
   obtain ⟨h4, h5⟩ := fl0 (by decide) h2
   obtain ⟨h6, h7⟩ := fl0 (by decide) h4
   subst h6
   exact z4s es (by simp at h3; omega) j (by simpa using h7) (by simp at h5; omega) n hnl fN (hK (by simpa using h7)) hb1 hb2 hb3
 · have h1 := z4r es hl e j n h
   unfold q59
   rw [if_pos h]
   exact h1

theorem xL_len (l : List Int) : (xL l).len = l.length := by unfold xL Blkd.len; rw [q0a]
theorem j8h (l : List Int) : ∀ e ∈ (xL l).elems, ∀ x ∈ e, ∃ p, x = AV.c p := fun e he x hx => by
 obtain ⟨b, _, rfl⟩ := List.mem_map.1 he
 obtain ⟨p, _, rfl⟩ := List.mem_map.1 hx
 exact ⟨p, rfl⟩
theorem uOpen {f : FuncId} {args : List AV} {y : AV} (es : List EN) (new : List NT) (ks : List Int) (e e' : Int) (m : List NT) (hy : ∀ used h, Sc used h y)
  (hT : ∀ E : List EN, E.length = es.length + 1 + new.length → hsE E = hsE es ++ [(13, [])] ++ new.map q0p → ToldM Tryz.prog f args [xW E.length e, xN E] [some (xW (E ++ m.map EN.of).length e'), some (xN (E ++ m.map EN.of))] y) :
  ToldM Tryz.prog f args [xW (es.length + 1 + new.length) e, xNB (uE es new) es.length uN0 1000002 ks.length, xL ks] [some (xW (es.length + 1 + (new ++ m).length) e'), some (xNB (uE es (new ++ m)) es.length uN0 1000002 ks.length), some (xL ks)] y := by
 have h := open_told (q5f es new) (xL ks) rfl (j8h ks) (f := f) (args := args) (y := y) (es.length + 1 + new.length) (es.length + 1 + (new ++ m).length) e e' m (by rw [q3b, List.length_append]; omega) hy (fun x => by
  have h1 := hT ((uE es new).set es.length (uN0.wb (.v x))) (by rw [List.length_set, q3b]) (by rw [q8r (q5f es new) (uN0.wb (.v x)) rfl, q79])
  rw [q5q, List.length_set, q3b] at h1
  rw [List.length_append, ← Nat.add_assoc]
  exact h1)
 rw [uE_app, xL_len] at h
 exact h
theorem uFB {h : Nat → Option Blkd} (L : Nat) (es : List EN) (new : List NT) (ks : List Int) {R : List EN} (hR : R = es ++ ({ q1g 13 with branches := ks } :: new).map EN.of) (hB : h L = some ⟨true, 3, 1, rA iPV ks⟩) :
  FB [L] h ⟨true, 40, 10, (rA EN.cells (uE es new)).set es.length (opB uN0 L ks.length)⟩ ⟨true, 40, 10, rA EN.cells R⟩ := by
 have hat : ((rA EN.cells (uE es new)).set es.length (opB uN0 L ks.length))[es.length]? = some (opB uN0 L ks.length) := List.getElem?_set_self (by rw [q0a, q3b]; omega)
 have h := FB.set (F := [L]) (h := h) (row := true) (T := 40) (z := 10) hat
  (e' := [.c (.v (.int .i64 13)), .c (.v (.string (str []))), .c (.sl 1 []), .c (.sl 9 []), .c (.sl 1 []), .c (.v (.bool false)), .c (.v (.string (str []))), .c (.v (.int .i64 0)), .c (.v (.int .i64 0)), .c (.sl 1 (ks.map iPV))])
  (.cons (.same _) (.cons (.same _) (.cons (.same _) (.cons (.same _) (.cons (.same _) (.cons (.same _) (.cons (.same _) (.cons (.same _) (.cons (.same _) (.cons (.row (B := ⟨true, 3, 1, rA iPV ks⟩) (es := ks.map iPV) (by simp) hB rfl (q0a _ _) (q4p _ _)) .nil)))))))))) (by simp [AV.cellish])
 rw [List.set_set, uE_done, ← hR] at h
 exact h
theorem z4v (es : List EN) (hl : es.length < 200) (l : List JT) (h1 : 1 ≤ l.length) (h10 : l.length ≤ 10) (a : List UInt8) (fN : JT → List HN → BV) (hK : ∀ x ∈ l, KidOk a x (fN x)) :
  q1o 71 es 0 [.c (.sl 5 (l.map JT.cells)), strV a] (q46 fN (hsE es) l) := by
 have hV : q46 fN (hsE es) l = ({ q1g 13 with branches := (q24 fN (hsE es ++ [(13, [])]) l [] [] 0).1 } :: (q24 fN (hsE es ++ [(13, [])]) l [] [] 0).2.1,
  if (q24 fN (hsE es ++ [(13, [])]) l [] [] 0).2.2.2 = true then (es.length : Int) else 0, (q24 fN (hsE es ++ [(13, [])]) l [] [] 0).2.2.1) := by
  unfold q46
  rw [if_neg (by omega), if_neg (by rw [hsE, List.length_map]; omega)]
  rw [show (hsE es).length = es.length by rw [hsE, List.length_map]]
 rw [hV]
 clear hV
 obtain ⟨G, hG⟩ : ∃ G, G = q24 fN (hsE es ++ [(13, [])]) l [] [] 0 := ⟨_, rfl⟩
 rw [← hG]
 unfold q1o strV
 obtain ⟨G1, G2, G3, G4⟩ := G
 simp only []
 obtain ⟨R, hR⟩ : ∃ R, R = es ++ ({ q1g 13 with branches := G1 } :: G2).map EN.of := ⟨_, rfl⟩
 obtain ⟨Pl, hPl⟩ : ∃ Pl : Int, Pl = if G4 = true then (es.length : Int) else 0 := ⟨_, rfl⟩
 have hRl : R.length = es.length + 1 + G2.length := by rw [hR]; simp; omega
 rw [← hR, ← hPl, hRl]
 have hFr := z4d es hl
 have hF1 := q2j es es.length rfl 0 34 false
 rw [show fl 0 false 34 = 0 from rfl] at hF1
 have hd1 : decide ((l.length : Int) < 1) = false := by simp; omega
 have hd2 : decide ((l.length : Int) > 10) = false := by simp; omega
 have hF0 : ∀ (es : List EN) (new : List NT) (ks : List Int) (b : Bool), ToldM Tryz.prog 36 [.ref 1000000 1 0 0, .c (.v (.bool b)), .c (.v (.int .i64 34))] [xW (es.length + 1 + new.length) 0, xNB (uE es new) es.length uN0 1000002 ks.length, xL ks] [some (xW (es.length + 1 + new.length) (fl 0 b 34)), some (xNB (uE es new) es.length uN0 1000002 ks.length), some (xL ks)] (.tup []) := fun es new ks b => by
  have h := uOpen es new ks 0 (fl 0 b 34) [] (f := 36) (args := [.ref 1000000 1 0 0, .c (.v (.bool b)), .c (.v (.int .i64 34))]) (y := .tup []) (fun _ _ => .tup (by simp)) (fun E _ _ => by
   simp only [List.map_nil, List.append_nil]
   exact q2j E E.length rfl 0 34 b)
  rw [List.append_nil] at h
  exact h
 have hscU : ∀ (new : List NT) (r m : Nat) {used : Nat → Prop} {h : Nat → Option Blkd}, (∀ e ∈ (rA EN.cells (uE es new)).set es.length (opB uN0 r m), ∀ x ∈ e, Sc used h x) = Sc used h (.row r m) := fun new r m {used} {h} => (q4z (by rw [q3b]; omega) _).trans (q5r uN0 r m)
 have hlen0 : (uE es []).length = es.length + 1 := q3b es []
 have hat0 : (rA EN.cells (uE es []))[es.length]? = some (uN0.cells.map .c) := q4j (q5f es [])
 unfold xW xN at hFr hF1 ⊢
 refine VC.toldXF (And.intro @q0a (And.intro @q0g hRl)) ent_71 [] Tryz.func71 rfl Tryz.ntmps71 fun hb hbL => ?_
 clear hb hbL
 refine q0d (And.intro hd1 hd2) ?_
 refine q0i (And.intro @q0a @q0b) [1000000, 1000001] (hF1) ?_
 refine q0d (And.intro @q0a @q0b) ?_
 refine q0i (And.intro @q0a @q0b) [1000000, 1000001] (hFr) ?_
 refine q0d (And.intro @q0a @q0b) ?_
 refine VC.nilR 1000001 es.length 9 3 1 ⟨true, 40, 10, rA EN.cells (uE es [])⟩ (uN0.cells.map .c) (by simp only [go_sem, simprocAttr, q0b]) hat0 rfl (by rfl) ?_
 refine VC.loop (ι := {q : Nat × List Int × List NT × Int // q.1 ≤ l.length ∧ q.2.1.length = q.1 ∧ es.length + 1 + q.2.2.1.length ≤ 200 ∧ (∀ o ∈ q.2.1, 0 ≤ o ∧ o < ((es.length + 1 + q.2.2.1.length : Nat) : Int)) ∧ (G1, G2, G3, G4) = q24 fN (hsE es ++ [(13, [])]) (l.drop q.1) q.2.1 q.2.2.1 q.2.2.2})
  (fun q => [(0, .ref 1000000 1 0 0), (1, .c (.sl 5 (l.map JT.cells))), (2, .c (.v (.string (str a)))), (6, .c (.v (.int .i64 0))), (7, .c (.v (.int .i64 (es.length : Int)))), (24, .c (.sl 5 (l.map JT.cells))), (25, .c (.v (.int .i64 (l.length : Int)))), (26, .c (.v (.int .i64 (q.1.1 : Int))))])
  (fun q => [(1000000, ⟨false, 60, 3, [[.row 1000001 (es.length + 1 + q.1.2.2.1.length), .c (.v (.int .i64 0)), .c (.v (.int .i64 q.1.2.2.2))]]⟩), (1000001, ⟨true, 40, 10, (rA EN.cells (uE es q.1.2.2.1)).set es.length (opB uN0 144 q.1.2.1.length)⟩), (144, ⟨true, 3, 1, rA iPV q.1.2.1⟩)]) 2000 (fun q => l.length - q.1.1)
  ⟨(0, [], [], 0), Nat.zero_le _, rfl, by simp; omega, by simp, by rw [List.drop_zero]; exact hG⟩ ?_ ?_
 · refine q1l (And.intro @q0a (And.intro @q0g (And.intro @q0b (And.intro @q0s (And.intro @q3b (And.intro @q32 hscU)))))) ?_
   exact ⟨rfl, Nat.le_refl _⟩
 rintro ⟨⟨i, ks, new, e⟩, hi, hkl, hnl, hks, hGi⟩
 simp only [] at hi hkl hnl hks hGi ⊢
 have hlen : (uE es new).length = es.length + 1 + new.length := q3b es new
 refine q0c ?_
 refine VC.cond (by rfl) (by trivial) (fun hc => ?_) (fun hc => ?_)
 rotate_left
 · have hie : i = l.length := by simp at hc; omega
   rw [hie, List.drop_length] at hGi
   unfold q24 at hGi
   injection hGi with g1 hGi
   injection hGi with g2 hGi
   injection hGi with g3 g4
   subst g1 g2 g3 g4
   rw [if_pos rfl] at hPl
   subst hPl
   refine VC.frz [144] [(7, .c (.v (.int .i64 (es.length : Int))))] [(1000001, ⟨true, 40, 10, rA EN.cells R⟩), (1000000, ⟨false, 60, 3, [[.row 1000001 (es.length + 1 + G2.length), .c (.v (.int .i64 0)), .c (.v (.int .i64 G3))]]⟩)] 3000 ?_ ?_
   · refine q6y (And.intro @q0a (And.intro @q0g (And.intro @q0b (And.intro @q0v (And.intro @q1s hRl))))) ?_
     exact ⟨.same _, ⟨uFB 144 es G2 G1 hR (by rfl), .same _⟩, Nat.le_refl _⟩
   refine q0c ?_
   refine q0j (@q0b) Tryz.results71 ?_
   exact .c _
 · have hlt : i < l.length := by simp at hc; omega
   obtain ⟨x, hx⟩ : ∃ x, l[i]? = some x := ⟨l[i], List.getElem?_eq_getElem hlt⟩
   have hkx := hK x (List.mem_of_getElem? hx)
   have hwi : IntKind.i64.wrap ((i : Int) + 1) = (i : Int) + 1 := q0w (by omega) (by omega)
   have hdr : l.drop i = x :: l.drop (i + 1) := by
    obtain ⟨h5, h6⟩ := List.getElem?_eq_some_iff.1 hx
    rw [List.drop_eq_getElem_cons h5, h6]
   rw [hdr] at hGi
   unfold q24 at hGi
   have hhl : (hsE es ++ [(13, [])] ++ new.map q0p).length = es.length + 1 + new.length := by simp [hsE]; omega
   have hsl := stepV_len hkx (hs := hsE es ++ [(13, [])] ++ new.map q0p) (by rw [hhl]; exact hnl) e
   have hspl := fun h => z6z hkx (hs := hsE es ++ [(13, [])] ++ new.map q0p) (by rw [hhl]; exact hnl) (e := e) h
   have hN := fun (hsc : ∀ used h, Sc used h (intV (q2e (fN x) (hsE es ++ [(13, [])] ++ new.map q0p) e).2.1)) => uOpen es new ks e (q2e (fN x) (hsE es ++ [(13, [])] ++ new.map q0p) e).2.2 (q2e (fN x) (hsE es ++ [(13, [])] ++ new.map q0p) e).1 hsc (f := 35) (args := [.ref 1000000 1 0 0, x.av, strV a]) (fun E hEl hEh => by
    have h := hkx.step E (by rw [hEl]; exact hnl) e
    rw [hEh] at h
    exact h)
   replace hN := hN (fun _ _ => .c)
   rw [hhl] at hsl hspl
   generalize q2e (fN x) (hsE es ++ [(13, [])] ++ new.map q0p) e = V at *
   obtain ⟨V1, V2, V3⟩ := V
   simp only [] at hN hGi hsl hspl
   unfold xW xNB xL intV strV at hN
   rw [JT.av_eq x, q0m x] at hN
   have hxp : (l.map JT.cells)[i]? = some x.cells := by rw [List.getElem?_map, hx]; rfl
   rw [q0m x] at hxp
   generalize x.kd = x1 at *
   generalize x.num = x2 at *
   generalize x.txt = x3 at *
   generalize x.its = x4 at *
   generalize x.keys = x5 at *
   have hlen2 : (uE es (new ++ V1)).length = es.length + 1 + (new ++ V1).length := q3b es (new ++ V1)
   refine q0d (hxp) ?_
   refine q0i (And.intro @q0a (And.intro @q0b (And.intro @q0v (And.intro @q1s (And.intro @q0s (And.intro hlen hlen2)))))) [1000000, 1000001, 144] (hN) ?_
   refine q0d (And.intro @q0a (And.intro @q0b (And.intro @q0v (And.intro @q1s (And.intro @q0s hlen2))))) ?_
   refine VC.cond (by rfl) (by trivial) (fun hv => ?_) (fun hv => ?_)
   · rw [if_pos (by simpa using hv)] at hGi
     injection hGi with g1 hGi
     injection hGi with g2 hGi
     injection hGi with g3 g4
     subst g1 g2 g3 g4
     rw [if_neg (by simp)] at hPl
     subst hPl
     have hdone := uE_done es (new ++ V1) G1
     rw [← hR] at hdone
     refine VC.frz [144] [] [(1000001, ⟨true, 40, 10, rA EN.cells R⟩), (1000000, ⟨false, 60, 3, [[.row 1000001 (es.length + 1 + (new ++ V1).length), .c (.v (.int .i64 0)), .c (.v (.int .i64 G3))]]⟩)] 3000 ?_ ?_
     · refine q6y (And.intro @q0a (And.intro @q0g (And.intro @q0b (And.intro @q0v (And.intro @q1s hRl))))) ?_
       exact ⟨⟨uFB 144 es (new ++ V1) G1 hR (by rfl), .same _⟩, Nat.le_refl _⟩
     refine q0c ?_
     refine q0j (@q0b) Tryz.results71 ?_
     exact .c _
   · have hv0 : V3 = 0 := by simpa using hv
     subst hv0
     rw [if_neg (by simp)] at hGi
     have hpl2 := hspl rfl
     have hBr := z4p (q5f es (new ++ V1)) 0 V2 hpl2.1 (by rw [hlen2, List.length_append]; omega) ks (by omega) (fun o ho => ⟨(hks o ho).1, by have := (hks o ho).2; rw [hlen2, List.length_append]; omega⟩)
     have hbe : (q2r (hsE (uE es (new ++ V1))) V2.toNat != 13 && !decide (0 ≤ idxP (q6p (hsE (uE es (new ++ V1))) V2 (q2r (hsE (uE es (new ++ V1))) V2.toNat)) ks)) = q4f (hsE es ++ [(13, [])] ++ (new ++ V1).map q0p) ks V2 := by
      rw [← q79]
      unfold q4f
      rw [← j4u]
      rfl
     rw [hbe, hlen2] at hBr
     clear hbe hN hspl
     generalize q4f (hsE es ++ [(13, [])] ++ (new ++ V1).map q0p) ks V2 = b at *
     have hF2 := hF0 es (new ++ V1) ks (!b)
     unfold xW xNB xL at hBr hF2
     obtain ⟨e2, he2⟩ : ∃ e2, e2 = fl 0 (!b) 34 := ⟨_, rfl⟩
     rw [← he2] at hF2
     have he3 : (if b = true then (0 : Int) else 34) = e2 := by rw [he2]; cases b <;> rfl
     rw [he3] at hGi
     clear he2 he3 hF0
     have hat : ((rA EN.cells (uE es (new ++ V1))).set es.length (opB uN0 144 ks.length))[es.length]? = some [.c (.v (.int .i64 13)), .c (.v (.string (str []))), .c (.sl 1 []), .c (.sl 9 []), .c (.sl 1 []), .c (.v (.bool false)), .c (.v (.string (str []))), .c (.v (.int .i64 0)), .c (.v (.int .i64 0)), .row 144 ks.length] := (List.getElem?_set_self (by rw [q0a, hlen2]; omega)).trans (congrArg some (uC_eq 144 ks.length))
     have hone : rA iPV ks ++ [[.c (.v (.int .i64 V2))]] = rA iPV (ks ++ [V2]) := q58 iPV ks V2
     have h0l : (0 : Int) ≤ (es.length : Int) := by omega
     have hll : (es.length : Int) < ((es.length + 1 + (new ++ V1).length : Nat) : Int) := by omega
     refine q0d (And.intro @q0a (And.intro @q0b (And.intro @q0v (And.intro @q1s (And.intro @q0s (And.intro hlen2 (And.intro hat (And.intro h0l hll)))))))) ?_
     refine q0i (And.intro @q0a (And.intro @q0b (And.intro @q0v (And.intro @q1s (And.intro @q0s hlen2))))) [1000000, 1000001, 144] (hBr) ?_
     refine q0d (And.intro @q0a (And.intro @q0b (And.intro @q0v (And.intro @q1s (And.intro @q0s (And.intro hlen2 (And.intro hat (And.intro h0l hll)))))))) ?_
     refine q0i (And.intro @q0a (And.intro @q0b (And.intro @q0v (And.intro @q1s (And.intro @q0s hlen2))))) [1000000, 1000001, 144] (hF2) ?_
     refine q0d (And.intro @q0a (And.intro @q0b (And.intro @q0v (And.intro @q1s (And.intro @q0s (And.intro hlen2 (And.intro hat (And.intro hone (And.intro @q8u (And.intro hwi (And.intro h0l hll))))))))))) ?_
     refine .next ⟨(i + 1, ks ++ [V2], new ++ V1, e2), by simp only []; omega, by simp only [List.length_append, List.length_singleton]; omega, by simp only [List.length_append]; omega, fun o ho => ?_, hGi⟩ ?_ (by simp only []; omega)
     · simp only [List.mem_append, List.mem_singleton] at ho
       simp only [List.length_append]
       rcases ho with ho | rfl
       · have := hks o ho
         omega
       · have := hpl2
         omega
     refine q1l (And.intro @q0a (And.intro @q0g (And.intro @q0b (And.intro @q0v (And.intro @q1s (And.intro @q0s (And.intro hlen2 (And.intro hscU (And.intro @q7r @q8v))))))))) ?_
     exact ⟨cI (by omega), rfl, Nat.le_refl _, Nat.le_refl _⟩

theorem j9i (es : List EN) (l : List JT) (a : List UInt8) (b1 b2 : Bool) (hd1 : decide ((l.length : Int) < 1) = b1) (hd2 : decide ((l.length : Int) > 10) = b2) (e2 e3 : Int) (h3 : e3 ≠ 0)
  (hF1 : ToldM Tryz.prog 36 [.ref 1000000 1 0 0, .c (.v (.bool (b1 || b2))), .c (.v (.int .i64 34))] [xW es.length 0, xN es] [some (xW es.length e2), some (xN es)] (.tup []))
  (hFr : ToldM Tryz.prog 117 [.ref 1000000 1 0 0, .agg [.c (.v (.int .i64 13)), .c (.v (.string ⟨#[]⟩)), .c (.v (.slice none 0 0)), .c (.v (.slice none 0 0)), .c (.v (.slice none 0 0)), .c (.v (.bool false)), .c (.v (.string ⟨#[]⟩)), .c (.v (.int .i64 0)), .c (.v (.int .i64 0)), .c (.v (.slice none 0 0))]] [xW es.length e2, xN es] [some (xW es.length e3), some (xN es)] (.c (.v (.int .i64 0)))) :
  q1o 71 es 0 [.c (.sl 5 (l.map JT.cells)), strV a] ([], 0, e3) := by
 have hN := fun j => j9e es j a e3 h3
 unfold q1o strV at *
 simp only [List.map_nil, List.append_nil] at hN ⊢
 have hq : (e3 != 0) = true := by simpa using h3
 unfold xW xN at *
 cases b1 with
 | true =>
   rw [Bool.true_or] at hF1
   refine VC.toldXF (And.intro @q0a @q0g) ent_71 [] Tryz.func71 rfl Tryz.ntmps71 fun hb hbL => ?_
   clear hb hbL
   refine q0d (And.intro hd1 hd2) ?_
   refine q0i (And.intro @q0a @q0b) [1000000, 1000001] (hF1) ?_
   refine q0d (And.intro @q0a @q0b) ?_
   refine q0i (And.intro @q0a @q0b) [1000000, 1000001] (hFr) ?_
   refine q0d (And.intro @q0a @q0b) ?_
   refine VC.loop (ι := {i : Nat // i = 0}) (fun q => [(0, .ref 1000000 1 0 0), (1, .c (.sl 5 (l.map JT.cells))), (2, .c (.v (.string (str a)))), (6, .c (.v (.int .i64 0))), (7, .c (.v (.int .i64 0))), (24, .c (.sl 5 (l.map JT.cells))), (25, .c (.v (.int .i64 (l.length : Int)))), (26, .c (.v (.int .i64 0)))])
    (fun q => [(1000000, ⟨false, 60, 3, [[.row 1000001 es.length, .c (.v (.int .i64 0)), .c (.v (.int .i64 e3))]]⟩), (1000001, ⟨true, 40, 10, rA EN.cells es⟩)]) 2000 (fun q => 0) ⟨0, rfl⟩ ?_ ?_
   · refine q1l (And.intro @q0a (And.intro @q0g @q0b)) ?_
     exact Nat.le_refl _
   rintro ⟨i, hi⟩
   subst hi
   refine q0c ?_
   refine VC.cond (by rfl) (by trivial) (fun hc => ?_) (fun hc => ?_)
   · have hlt : 0 < l.length := by simp at hc; omega
     obtain ⟨x, hx⟩ : ∃ x, l[0]? = some x := ⟨l[0], List.getElem?_eq_getElem hlt⟩
     replace hN := hN x
     have hxp : (l.map JT.cells)[0]? = some x.cells := by rw [List.getElem?_map, hx]; rfl
     have hll : (0 : Int) < (l.length : Int) := by omega
     rw [JT.av_eq x, q0m x] at hN
     rw [q0m x] at hxp
     generalize x.kd = x1 at *
     generalize x.num = x2 at *
     generalize x.txt = x3 at *
     generalize x.its = x4 at *
     generalize x.keys = x5 at *
     refine q0d (And.intro hxp hll) ?_
     refine q0i (And.intro @q0a @q0b) [1000000, 1000001] (hN) ?_
     refine q0f (And.intro @q0a (And.intro @q0b hq)) ?_
     refine q0j (@q0b) Tryz.results71 ?_
     exact .c _
   · refine q0d (And.intro @q0a @q0b) ?_
     refine q0j (@q0b) Tryz.results71 ?_
     exact .c _
 | false =>
   rw [Bool.false_or] at hF1
   refine VC.toldXF (And.intro @q0a @q0g) ent_71 [] Tryz.func71 rfl Tryz.ntmps71 fun hb hbL => ?_
   clear hb hbL
   refine q0d (And.intro hd1 hd2) ?_
   refine q0i (And.intro @q0a @q0b) [1000000, 1000001] (hF1) ?_
   refine q0d (And.intro @q0a @q0b) ?_
   refine q0i (And.intro @q0a @q0b) [1000000, 1000001] (hFr) ?_
   refine q0d (And.intro @q0a @q0b) ?_
   refine VC.loop (ι := {i : Nat // i = 0}) (fun q => [(0, .ref 1000000 1 0 0), (1, .c (.sl 5 (l.map JT.cells))), (2, .c (.v (.string (str a)))), (6, .c (.v (.int .i64 0))), (7, .c (.v (.int .i64 0))), (24, .c (.sl 5 (l.map JT.cells))), (25, .c (.v (.int .i64 (l.length : Int)))), (26, .c (.v (.int .i64 0)))])
    (fun q => [(1000000, ⟨false, 60, 3, [[.row 1000001 es.length, .c (.v (.int .i64 0)), .c (.v (.int .i64 e3))]]⟩), (1000001, ⟨true, 40, 10, rA EN.cells es⟩)]) 2000 (fun q => 0) ⟨0, rfl⟩ ?_ ?_
   · refine q1l (And.intro @q0a (And.intro @q0g @q0b)) ?_
     exact Nat.le_refl _
   rintro ⟨i, hi⟩
   subst hi
   refine q0c ?_
   refine VC.cond (by rfl) (by trivial) (fun hc => ?_) (fun hc => ?_)
   · have hlt : 0 < l.length := by simp at hc; omega
     obtain ⟨x, hx⟩ : ∃ x, l[0]? = some x := ⟨l[0], List.getElem?_eq_getElem hlt⟩
     replace hN := hN x
     have hxp : (l.map JT.cells)[0]? = some x.cells := by rw [List.getElem?_map, hx]; rfl
     have hll : (0 : Int) < (l.length : Int) := by omega
     rw [JT.av_eq x, q0m x] at hN
     rw [q0m x] at hxp
     generalize x.kd = x1 at *
     generalize x.num = x2 at *
     generalize x.txt = x3 at *
     generalize x.its = x4 at *
     generalize x.keys = x5 at *
     refine q0d (And.intro hxp hll) ?_
     refine q0i (And.intro @q0a @q0b) [1000000, 1000001] (hN) ?_
     refine q0f (And.intro @q0a (And.intro @q0b hq)) ?_
     refine q0j (@q0b) Tryz.results71 ?_
     exact .c _
   · refine q0d (And.intro @q0a @q0b) ?_
     refine q0j (@q0b) Tryz.results71 ?_
     exact .c _
theorem bunion_no (es : List EN) (hl : es.length ≤ 200) (l : List JT) (a : List UInt8) (fN : JT → List HN → BV) (h : l.length < 1 ∨ 10 < l.length ∨ 200 ≤ es.length) :
  q1o 71 es 0 [.c (.sl 5 (l.map JT.cells)), strV a] (q46 fN (hsE es) l) := by
 have hsl : (hsE es).length = es.length := by rw [hsE, List.length_map]
 obtain ⟨b1, hb1⟩ : ∃ b1, b1 = decide ((l.length : Int) < 1) := ⟨_, rfl⟩
 obtain ⟨b2, hb2⟩ : ∃ b2, b2 = decide ((l.length : Int) > 10) := ⟨_, rfl⟩
 have hF1 := q2j es es.length rfl 0 34 (b1 || b2)
 by_cases hbad : l.length < 1 ∨ 10 < l.length
 · have hv : q46 fN (hsE es) l = ([], 0, 34) := by unfold q46; rw [if_pos hbad]
   have hb : (b1 || b2) = true := by
    rw [hb1, hb2]
    rcases hbad with h | h
    · simp; omega
    · simp; omega
   rw [hv]
   refine j9i es l a b1 b2 hb1.symm hb2.symm 34 34 (by decide) ?_ (z0e hl (by decide) 13)
   rw [hb] at hF1 ⊢
   exact hF1
 · have hle : es.length = 200 := by omega
   have hv : q46 fN (hsE es) l = ([], 0, 3) := by unfold q46; rw [if_neg hbad, if_pos (by omega)]
   have hb : (b1 || b2) = false := by
    rw [hb1, hb2]
    simp
    omega
   rw [hv]
   have hFr := j30 es hl 0 13
   have hv2 : q2k (hsE es) 0 (q1g 13) = ([], 0, 3) := by
    unfold q2k
    rw [show (hsE es).length = 200 by rw [hsl]; exact hle]
    rfl
   rw [hv2] at hFr
   simp only [List.map_nil, List.append_nil] at hFr
   refine j9i es l a b1 b2 hb1.symm hb2.symm 0 3 (by decide) ?_ hFr
   rw [hb] at hF1 ⊢
   exact hF1
theorem z4u (es : List EN) (hl : es.length ≤ 200) (l : List JT) (a : List UInt8) (fN : JT → List HN → BV) (hK : ∀ x ∈ l, KidOk a x (fN x)) :
  q1o 71 es 0 [.c (.sl 5 (l.map JT.cells)), strV a] (q46 fN (hsE es) l) := by
 by_cases h : l.length < 1 ∨ 10 < l.length ∨ 200 ≤ es.length
 · exact bunion_no es hl l a fN h
 · exact z4v es (by omega) l (by omega) (by omega) a fN hK

def symE (e : Int) (done : List (List UInt8)) : List (List UInt8) → Int
 | [] => e
 | s :: l => symE (fl (fl e (!q1h s) 31) (done.contains s) 36) (done ++ [s]) l
def q6b (e : Int) (x : JT) : Int := symE (fl (q2u e x) (decide ((x.its.length : Int) = 0)) 30) [] (x.its.map JT.txt)
def q6h (hs : List HN) (e : Int) (j : JT) (n : NT) : List NT × Int × Int :=
 if (jget j q1q).isSome = true then
  q2k hs (fl (fl (q6b e (gt j q1j)) ((gt j q1q).kd != 4) 30) (!((gt j q1j).its.map JT.txt).contains (gt j q1q).txt) 35) { n with symbols := (gt j q1j).its.map JT.txt, has := true, dflt := (gt j q1q).txt }
 else q2k hs (q6b e (gt j q1j)) { n with symbols := (gt j q1j).its.map JT.txt, has := false }
theorem z39 (es : List EN) (hl : es.length ≤ 200) (e : Int) (j : JT) (n : NT) (hL : (gt j q1j).its.length ≤ 1000000) (hT : ∀ x ∈ (gt j q1j).its, x.txt.length ≤ 100000000) :
  q1o 125 es e [j.av, (EN.of n).av] (q6h (hsE es) e j n) := by
 unfold q1o
 have hG := q44 j q1j
 have hG2 := q44 j q1q
 have hX := j50 es es.length rfl e (gt j q1j) hL
 have hF1 := q2j es es.length rfl (q2u e (gt j q1j)) 30 (decide (((gt j q1j).its.length : Int) = 0))
 have hTx := fun e => j1y es es.length rfl e j q1q
 rw [show (jget j q1j).getD zJ = gt j q1j from rfl] at hG
 rw [show (jget j q1q).getD zJ = gt j q1q from rfl] at hG2
 unfold q6h q6b
 generalize (jget j q1j).isSome = b at *
 generalize (jget j q1q).isSome = bd at *
 generalize gt j q1j = x at *
 generalize gt j q1q = w at *
 generalize q2u e x = e1 at *
 obtain ⟨e2, he2⟩ : ∃ e2, e2 = fl e1 (decide ((x.its.length : Int) = 0)) 30 := ⟨_, rfl⟩
 rw [← he2] at hF1 ⊢
 obtain ⟨ss, hss⟩ : ∃ ss, ss = x.its.map JT.txt := ⟨_, rfl⟩
 have hsl : ss.length = x.its.length := by rw [hss, List.length_map]
 have hsb : ∀ s ∈ ss, s.length ≤ 100000000 := by
  intro s hs
  rw [hss] at hs
  obtain ⟨y, hy, rfl⟩ := List.mem_map.1 hs
  exact hT y hy
 rw [← hss] at hX ⊢
 rw [← hsl] at hF1 hL
 obtain ⟨E, hE⟩ : ∃ E, E = symE e2 [] ss := ⟨_, rfl⟩
 rw [← hE]
 have hFa := fun e n => j31 es hl e n
 rw [EN.av_eq, q68]
 rw [JT.av_eq x, q0m x] at hG hX
 rw [JT.av_eq, q0m] at hG hG2 ⊢
 rw [JT.av_eq w, q0m w] at hG2
 rw [JT.av_eq, q0m] at hTx
 generalize j.kd = j1 at *
 generalize j.num = j2 at *
 generalize j.txt = j3 at *
 generalize j.its = j4 at *
 generalize j.keys = j5 at *
 generalize x.kd = x1 at *
 generalize x.num = x2 at *
 generalize x.txt = x3 at *
 clear hsl hT hss he2
 generalize x.its = x4 at *
 generalize x.keys = x5 at *
 rw [q1j, q2h [115, 121, 109, 98, 111, 108, 115]] at hG
 rw [q1q, q2h [100, 101, 102, 97, 117, 108, 116]] at hG2 hTx
 obtain ⟨n1, n2, n3, n4, n5, n6, n7, n8, n9, n10⟩ := n
 simp only []
 obtain ⟨V, hV⟩ : ∃ V, V = if bd = true then q2k (hsE es) (fl (fl E (w.kd != 4) 30) (!ss.contains w.txt) 35) ⟨n1, n2, n3, n4, ss, true, w.txt, n8, n9, n10⟩ else q2k (hsE es) E ⟨n1, n2, n3, n4, ss, false, n7, n8, n9, n10⟩ := ⟨_, rfl⟩
 rw [← hV]
 obtain ⟨V1, V2, V3⟩ := V
 simp only []
 unfold xW xN at hX hF1 ⊢
 refine VC.toldXF (And.intro @q0a @q0g) ent_125 [] Tryz.func125 rfl Tryz.ntmps125 fun hb hbL => ?_
 clear hb hbL
 refine q0c ?_
 refine q0e (hG) ?_
 refine q0c ?_
 refine q0i (And.intro @q0a @q0b) [1000000, 1000001] (hX) ?_
 refine q0d (And.intro @q0a @q0b) ?_
 refine q0i (And.intro @q0a @q0b) [1000000, 1000001] (hF1) ?_
 refine q0d (And.intro @q0a @q0b) ?_
 refine VC.loop (ι := {q : Nat × Int // q.1 ≤ ss.length ∧ E = symE q.2 (ss.take q.1) (ss.drop q.1)}) (fun q => [(0, .ref 1000000 1 0 0), (4, .ref 0 1 0 0), (5, .ref 8 1 0 0), (6, .c (.v (.int .i64 0))), (27, .c (.sl 1 (ss.map sPV))), (28, .c (.v (.int .i64 (ss.length : Int)))), (29, .c (.v (.int .i64 (q.1.1 : Int))))])
  (fun q => [(1000000, ⟨false, 60, 3, [[.row 1000001 es.length, .c (.v (.int .i64 0)), .c (.v (.int .i64 q.1.2))]]⟩), (1000001, ⟨true, 40, 10, rA EN.cells es⟩), (0, ⟨false, 25, 5, [[.c (.v (.int .i64 j1)), .c (.v (.int .i64 j2)), .c (.v (.string (str j3))), .c (.sl 5 (j4.map JT.cells)), .c (.sl 1 (j5.map sPV))]]⟩),
   (8, ⟨false, 40, 10, [[.c (.v (.int .i64 n1)), .c (.v (.string (str n2))), .c (.sl 1 (n3.map sPV)), .c (.sl 9 (n4.map FT.cells)), .c (.sl 1 (ss.map sPV)), .c (.v (.bool n6)), .c (.v (.string (str n7))), .c (.v (.int .i64 n8)), .c (.v (.int .i64 n9)), .c (.sl 1 (n10.map iPV))]]⟩)]) 2000 (fun q => ss.length - q.1.1) ⟨(0, e2), Nat.zero_le _, hE⟩ ?_ ?_
 · refine q1l (And.intro @q0a (And.intro @q0g @q0b)) ?_
   exact Nat.le_refl _
 rintro ⟨⟨i, ei⟩, hi, hEi⟩
 simp only [] at hi hEi ⊢
 clear hF1 hX hE
 refine q0c ?_
 refine VC.cond (by rfl) (by trivial) (fun hc => ?_) (fun hc => ?_)
 rotate_left
 · have hie : i = ss.length := by simp at hc; omega
   rw [hie, List.take_length, List.drop_length] at hEi
   unfold symE at hEi
   subst hEi
   cases bd with
   | false =>
     rw [if_neg (by simp)] at hV
     have hFr := hFa E ⟨n1, n2, n3, n4, ss, false, n7, n8, n9, n10⟩
     rw [← hV] at hFr
     rw [EN.av_eq, q68] at hFr
     simp only [] at hFr
     clear hFa hTx
     generalize es ++ V1.map EN.of = es' at *
     unfold xW xN at hFr
     refine q0d (And.intro @q0a @q0b) ?_
     refine q0e (hG2) ?_
     refine q0f (And.intro @q0a @q0b) ?_
     refine q0i (And.intro @q0a @q0b) [1000000, 1000001] (hFr) ?_
     refine q0d (And.intro @q0a @q0b) ?_
     refine q0j (@q0b) Tryz.results125 ?_
     exact .c _
   | true =>
     rw [if_pos rfl] at hV
     have hFr := hFa (fl (fl E (w.kd != 4) 30) (!ss.contains w.txt) 35) ⟨n1, n2, n3, n4, ss, true, w.txt, n8, n9, n10⟩
     rw [← hV] at hFr
     rw [EN.av_eq, q68] at hFr
     simp only [] at hFr
     have hT1 := hTx E
     have hC := j9o ss w.txt
     have hF3 := q2j es es.length rfl (fl E (w.kd != 4) 30) 35 (!ss.contains w.txt)
     clear hFa hTx hV
     generalize es ++ V1.map EN.of = es' at *
     generalize fl (fl E (w.kd != 4) 30) (!ss.contains w.txt) 35 = E2 at *
     generalize fl E (w.kd != 4) 30 = E1 at *
     generalize ss.contains w.txt = cw at *
     generalize w.kd = w1 at *
     generalize w.num = w2 at *
     generalize w.txt = w3 at *
     generalize w.its = w4 at *
     generalize w.keys = w5 at *
     unfold xW xN at hFr hT1 hF3
     refine q0d (And.intro @q0a @q0b) ?_
     refine q0e (hG2) ?_
     refine q0f (And.intro @q0a @q0b) ?_
     refine q0i (And.intro @q0a @q0b) [1000000, 1000001] (hT1) ?_
     refine q0d (And.intro @q0a @q0b) ?_
     refine q0e (hC) ?_
     refine q0d (And.intro @q0a @q0b) ?_
     refine q0i (And.intro @q0a @q0b) [1000000, 1000001] (hF3) ?_
     refine q0d (And.intro @q0a @q0b) ?_
     refine q0i (And.intro @q0a @q0b) [1000000, 1000001] (hFr) ?_
     refine q0d (And.intro @q0a @q0b) ?_
     refine q0j (@q0b) Tryz.results125 ?_
     exact .c _
 · have hlt : i < ss.length := by simp at hc; omega
   obtain ⟨y, hy⟩ : ∃ y, ss[i]? = some y := ⟨ss[i], List.getElem?_eq_getElem hlt⟩
   have hyb := hsb y (List.mem_of_getElem? hy)
   have hS := j5k y (by omega)
   have hC := j9o (ss.take i) y
   rw [List.map_take] at hC
   have hw : IntKind.i64.wrap ((i : Int) + 1) = (i : Int) + 1 := q0w (by omega) (by omega)
   have hyp : (ss.map sPV)[i]? = some [.v (.string (str y))] := by rw [List.getElem?_map, hy]; rfl
   have hdr : ss.drop i = y :: ss.drop (i + 1) := by
    obtain ⟨h5, h6⟩ := List.getElem?_eq_some_iff.1 hy
    rw [List.drop_eq_getElem_cons h5, h6]
   have htk : ss.take i ++ [y] = ss.take (i + 1) := by rw [List.take_add_one, hy]; rfl
   rw [hdr] at hEi
   unfold symE at hEi
   rw [htk] at hEi
   have hFb := q2j es es.length rfl ei 31 (!q1h y)
   have hFc := q2j es es.length rfl (fl ei (!q1h y) 31) 36 ((ss.take i).contains y)
   obtain ⟨ej, hej⟩ : ∃ ej, ej = fl (fl ei (!q1h y) 31) ((ss.take i).contains y) 36 := ⟨_, rfl⟩
   rw [← hej] at hEi hFc
   generalize fl ei (!q1h y) 31 = ek at *
   generalize q1h y = sy at *
   generalize (ss.take i).contains y = cy at *
   have hil : (i : Int) ≤ (ss.length : Int) := by omega
   have hi0 : (0 : Int) ≤ (i : Int) := by omega
   have hilt : (i : Int) < (ss.length : Int) := by omega
   unfold xW xN at hFb hFc
   refine q0d (And.intro hyp hilt) ?_
   refine q0e (hS) ?_
   refine q0d (And.intro @q0a @q0b) ?_
   refine q0i (And.intro @q0a @q0b) [1000000, 1000001] (hFb) ?_
   refine q0d (And.intro @q0a (And.intro @q0b (And.intro hil hi0))) ?_
   refine q0e (hC) ?_
   refine q0d (And.intro @q0a @q0b) ?_
   refine q0i (And.intro @q0a @q0b) [1000000, 1000001] (hFc) ?_
   refine q0d (And.intro @q0a (And.intro @q0b hw)) ?_
   refine .next ⟨(i + 1, ej), by simp only []; omega, hEi⟩ ?_ (by simp only []; omega)
   refine q1l (And.intro @q0a (And.intro @q0g @q0b)) ?_
   exact ⟨cI (by omega), Nat.le_refl _⟩

theorem z4l (es : List EN) (j : JT) (hk : j.kd = 5) (a : List UInt8) (V : List NT × Int × Int) (hN : q1o 71 es 0 [.c (.sl 5 (j.its.map JT.cells)), strV a] V) : q1o 35 es 0 [j.av, strV a] V := by
 unfold q1o strV at *
 obtain ⟨V1, V2, V3⟩ := V
 simp only [] at hN ⊢
 generalize es ++ V1.map EN.of = es' at *
 rw [JT.av_eq, q0m, hk] at *
 generalize j.num = j2 at *
 generalize j.txt = j3 at *
 generalize j.its = j4 at *
 generalize j.keys = j5 at *
 unfold xW xN at *
 refine VC.toldXF (And.intro @q0a @q0g) j26 [] Tryz.func35 rfl Tryz.ntmps35 fun hb hbL => ?_
 clear hb hbL
 refine q0f (And.intro @q0a @q0b) ?_
 refine q0i (And.intro @q0a @q0b) [1000000, 1000001] (hN) ?_
 refine q0d (And.intro @q0a @q0b) ?_
 refine q0j (@q0b) Tryz.results35 ?_
 exact .c _
theorem z4k (es : List EN) (j : JT) (h4 : j.kd ≠ 4) (h5 : j.kd ≠ 5) (h6 : j.kd ≠ 6) (a : List UInt8) : q1o 35 es 0 [j.av, strV a] ([], 0, 30) := by
 have hF := q2j es es.length rfl 0 30 true
 rw [show fl 0 true 30 = 30 from rfl] at hF
 unfold q1o strV at *
 simp only [List.map_nil, List.append_nil]
 have q4 : (j.kd == 4) = false := by simpa using h4
 have q5 : (j.kd == 5) = false := by simpa using h5
 have q6 : (j.kd == 6) = false := by simpa using h6
 rw [JT.av_eq, q0m] at *
 clear h4 h5 h6
 generalize j.kd = j1 at *
 generalize j.num = j2 at *
 generalize j.txt = j3 at *
 generalize j.its = j4 at *
 generalize j.keys = j5 at *
 unfold xW xN at *
 refine VC.toldXF (And.intro @q0a @q0g) j26 [] Tryz.func35 rfl Tryz.ntmps35 fun hb hbL => ?_
 clear hb hbL
 refine q0f (And.intro @q0a (And.intro @q0b (And.intro q4 (And.intro q5 q6)))) ?_
 refine q0i (And.intro @q0a @q0b) [1000000, 1000001] (hF) ?_
 refine q0d (And.intro @q0a @q0b) ?_
 refine q0j (@q0b) Tryz.results35 ?_
 exact .c _

def q7t (hs : List HN) (k : Int) (V : List NT × Int × Int) : List NT × Int × Int :=
 if 200 ≤ hs.length then ([], 0, 3) else ({ q1g k with items := V.2.1 } :: V.1, (hs.length : Int), V.2.2)
theorem bmany_big (es : List EN) (hl : es.length = 200) (j : JT) (k : Int) (key a : List UInt8) (x : JT) (hx : jget j key = some x) : ToldM Tryz.prog 122 [.ref 1000000 1 0 0, j.av, .c (.v (.int .i64 k)), .c (.v (.string (str key))), .c (.v (.string (str a)))] [xW es.length 0, xN es]
  [some (xW es.length 3), some (xN es)] (.c (.v (.int .i64 0))) := by
 have hG := q44 j key
 rw [hx] at hG
 have hF1 := q2j es es.length rfl 0 30 false
 rw [show fl 0 false 30 = 0 from rfl] at hF1
 have hFr := j30 es (by omega) 0 k
 have hv : q2k (hsE es) 0 (q1g k) = ([], 0, 3) := by
  unfold q2k
  rw [show (hsE es).length = 200 by rw [hsE, List.length_map]; exact hl]
  rfl
 rw [hv] at hFr
 simp only [List.map_nil, List.append_nil] at hFr
 simp only [Option.getD_some, Option.isSome_some] at hG
 rw [JT.av_eq x, q0m x] at hG
 rw [JT.av_eq, q0m] at hG ⊢
 generalize j.kd = j1 at *
 generalize j.num = j2 at *
 generalize j.txt = j3 at *
 generalize j.its = j4 at *
 generalize j.keys = j5 at *
 generalize x.kd = x1 at *
 generalize x.num = x2 at *
 generalize x.txt = x3 at *
 generalize x.its = x4 at *
 generalize x.keys = x5 at *
 unfold xW xN at hF1 hFr ⊢
 refine VC.toldXF (And.intro @q0a @q0g) j6a [] Tryz.func122 rfl Tryz.ntmps122 fun hb hbL => ?_
 clear hb hbL
 refine q0c ?_
 refine q0e (hG) ?_
 refine q0c ?_
 refine q0i (And.intro @q0a @q0b) [1000000, 1000001] (hF1) ?_
 refine q0d (And.intro @q0a @q0b) ?_
 refine q0i (And.intro @q0a @q0b) [1000000, 1000001] (hFr) ?_
 refine q0f (And.intro @q0a @q0b) ?_
 refine q0j (@q0b) Tryz.results122 ?_
 exact .c _
theorem z4j (es : List EN) (hl : es.length < 200) (j : JT) (k : Int) (key a : List UInt8) (x : JT) (hx : jget j key = some x) (V : List NT × Int × Int) (hN : q1o 35 (es ++ [EN.of (q1g k)]) 0 [x.av, strV a] V) :
  q1o 122 es 0 [j.av, intV k, strV key, strV a] (q7t (hsE es) k V) := by
 have hG := q44 j key
 rw [hx] at hG
 have hF1 := q2j es es.length rfl 0 30 false
 rw [show fl 0 false 30 = 0 from rfl] at hF1
 have hFr := j30 es (by omega) 0 k
 have hsl : (hsE es).length = es.length := by rw [hsE, List.length_map]
 have hv : q2k (hsE es) 0 (q1g k) = ([q1g k], (es.length : Int), 0) := by
  unfold q2k
  rw [hsl, show decide (200 ≤ es.length) = false by simp; omega]
  rfl
 rw [hv] at hFr
 have hm : q7t (hsE es) k V = ({ q1g k with items := V.2.1 } :: V.1, (es.length : Int), V.2.2) := by
  unfold q7t
  rw [if_neg (by rw [hsl]; omega), hsl]
 rw [hm]
 unfold q1o strV intV at *
 obtain ⟨V1, V2, V3⟩ := V
 simp only [List.map_cons, List.map_nil] at hN hFr ⊢
 simp only [Option.getD_some, Option.isSome_some] at hG
 obtain ⟨E, hE⟩ : ∃ E, E = (es ++ [EN.of (q1g k)]) ++ V1.map EN.of := ⟨_, rfl⟩
 obtain ⟨E', hE'⟩ : ∃ E', E' = es ++ EN.of { q1g k with items := V2 } :: V1.map EN.of := ⟨_, rfl⟩
 have hlen : E'.length = E.length := by rw [hE, hE']; simp
 have hat : (rA EN.cells E)[es.length]? = some ((EN.of (q1g k)).cells.map .c) := q4j (by rw [hE, List.append_assoc, List.getElem?_append_right (Nat.le_refl _), Nat.sub_self]; rfl)
 have hset : (rA EN.cells E).set es.length ((EN.of { q1g k with items := V2 }).cells.map .c) = rA EN.cells E' := by
  rw [q69, hE, hE', List.append_assoc, List.set_append_right _ _ (Nat.le_refl _), Nat.sub_self]
  try rfl
 rw [← hE] at hN
 rw [← hE', hlen]
 obtain ⟨F, hF⟩ : ∃ F, F = es ++ [EN.of (q1g k)] := ⟨_, rfl⟩
 rw [← hF] at hN hFr
 have hlt' : es.length < E.length := by rw [hE]; simp
 clear hv hm hsl hE hE' hF
 rw [q68] at hat hset
 simp only [q1g, List.map_cons, List.map_nil] at hat hset
 rw [JT.av_eq x, q0m x] at hG hN
 rw [JT.av_eq, q0m] at hG ⊢
 generalize j.kd = j1 at *
 generalize j.num = j2 at *
 generalize j.txt = j3 at *
 generalize j.its = j4 at *
 generalize j.keys = j5 at *
 generalize x.kd = x1 at *
 generalize x.num = x2 at *
 generalize x.txt = x3 at *
 generalize x.its = x4 at *
 generalize x.keys = x5 at *
 unfold xW xN at hF1 hFr hN ⊢
 refine VC.toldXF (And.intro @q0a (And.intro @q0g hlen)) j6a [] Tryz.func122 rfl Tryz.ntmps122 fun hb hbL => ?_
 clear hb hbL
 refine q0c ?_
 refine q0e (hG) ?_
 refine q0c ?_
 refine q0i (And.intro @q0a @q0b) [1000000, 1000001] (hF1) ?_
 refine q0d (And.intro @q0a @q0b) ?_
 refine q0i (And.intro @q0a @q0b) [1000000, 1000001] (hFr) ?_
 refine q0f (And.intro @q0a @q0b) ?_
 refine q0i (And.intro @q0a @q0b) [1000000, 1000001] (hN) ?_
 refine q0d (And.intro @q0a (And.intro @q0b (And.intro hat hset))) ?_
 refine q0j (And.intro @q0b hlen) Tryz.results122 ?_
 exact .c _

abbrev j1x := JT → List UInt8 → List HN → BV
def q7u (f : j1x) (hs : List HN) (j : JT) (k : Int) (key a : List UInt8) : BV := match jget j key with
 | none => ([], 0, 30)
 | some x => q7t hs k (f x a (hs ++ [(k, [])]))
def j3j (f : j1x) (hs : List HN) (j : JT) (a : List UInt8) : BV :=
 if (gt j q0k).kd ≠ 4 then ([], 0, 30)
 else if q0h (gt j q0k).txt = 11 then q7u f hs j 11 q61 a
 else if q0h (gt j q0k).txt = 12 then q7u f hs j 12 q62 a
 else if q0h (gt j q0k).txt = 9 then q59 (fun t => f t (q1n (q3u j 9 a).name)) hs (q27 hs j a) j (q3u j 9 a)
 else if q0h (gt j q0k).txt = 10 then q6h hs (q27 hs j a) j (q3u j 10 a)
 else if q0h (gt j q0k).txt = 14 then q6j hs (q27 hs j a) j (q3u j 14 a)
 else q6f hs (gt j q0k).txt a
def q31 : Nat → j1x
 | 0 => fun _ _ _ => ([], 0, 30)
 | d + 1 => fun j a hs => if j.kd = 4 then q6f hs j.txt a else if j.kd = 5 then q46 (fun x => q31 d x a) hs j.its else if j.kd = 6 then j3j (q31 d) hs j a else ([], 0, 30)
def VOk (hs : List HN) (V : BV) : Prop := hs.length + V.1.length ≤ 200 ∧ (V.2.2 = 0 → 0 ≤ V.2.1 ∧ V.2.1 < ((hs.length + V.1.length : Nat) : Int))
theorem q6w {hs : List HN} (hl : hs.length ≤ 200) {k e : Int} (he : e ≠ 0) : VOk hs ([], k, e) := ⟨by simpa using hl, fun h => absurd h he⟩
theorem j4k {e : Int} {b : Bool} {c : Int} (hc : c ≠ 0) (h : fl e b c = 0) : e = 0 ∧ b = false := by
 by_cases he : e = 0
 · subst he
   rw [fl_ok] at h
   cases b with
   | true => exact absurd (by simpa using h) hc
   | false => exact ⟨rfl, rfl⟩
 · rw [q1i _ _ _ he] at h
   exact absurd h he
theorem j8c {hs : List HN} (hl : hs.length ≤ 200) (e : Int) (n : NT) : VOk hs (q2k hs e n) := by
 unfold q2k
 by_cases h : fl e (decide (200 ≤ hs.length)) 3 = 0
 · rw [if_neg (by simpa using h)]
   have hlt : hs.length < 200 := by
    apply Classical.byContradiction
    intro hn
    rw [show decide (200 ≤ hs.length) = true by simp; omega] at h
    unfold fl at h
    split at h
    · exact absurd h (by assumption)
    · simp at h
   exact ⟨by simp only [List.length_singleton]; omega, fun _ => by simp only [List.length_singleton]; omega⟩
 · rw [if_pos h]
   exact q6w hl h
theorem z1t {fN : JT → List HN → BV} {hs : List HN} : ∀ (l : List JT), (∀ x ∈ l, ∀ hs', hs'.length ≤ 200 → jget x q0k ≠ none → VOk hs' (fN (gt x q0k) hs')) → ∀ (fs : List FT) (new : List NT) (e : Int), hs.length + new.length ≤ 200 → hs.length + (q3o fN hs l fs new e).2.1.length ≤ 200
 | [], _, fs, new, e, h => h
 | x :: xs, hx, fs, new, e, h => by
   unfold q3o
   split
   · exact h
   · refine z1t xs (fun y hy => hx y (by simp [hy])) _ _ _ ?_
     rw [List.length_append]
     unfold q2e
     split
     · simpa using h
     · rename_i he
       have hs' : jget x q0k ≠ none := by
        intro hn
        apply he
        unfold q29 fl
        rw [hn]
        split <;> simp
        assumption
       have := (hx x (by simp) (hs ++ new.map q0p) (by simpa using h) hs').1
       simp only [List.length_append, List.length_map] at this
       omega
theorem z3a {fN : JT → List HN → BV} {hs : List HN} : ∀ (l : List JT), (∀ x ∈ l, ∀ hs', hs'.length ≤ 200 → VOk hs' (fN x hs')) → ∀ (ks : List Int) (new : List NT) (e : Int), hs.length + new.length ≤ 200 → hs.length + (q24 fN hs l ks new e).2.1.length ≤ 200
 | [], _, ks, new, e, h => h
 | x :: xs, hx, ks, new, e, h => by
   have hst : hs.length + (new ++ (q2e (fN x) (hs ++ new.map q0p) e).1).length ≤ 200 := by
    rw [List.length_append]
    unfold q2e
    split
    · simpa using h
    · have := (hx x (by simp) (hs ++ new.map q0p) (by simpa using h)).1
      simp only [List.length_append, List.length_map] at this
      omega
   unfold q24
   split
   · exact hst
   · exact z3a xs (fun y hy => hx y (by simp [hy])) _ _ _ hst
theorem z3i {hs : List HN} (hl : hs.length ≤ 200) (w a : List UInt8) : VOk hs (q6f hs w a) := by
 unfold q6f
 split
 · exact j8c hl _ _
 · refine ⟨by simpa using hl, fun h => ?_⟩
   simp only [List.length_nil, Nat.add_zero] at h ⊢
   have hf : ¬ q19 hs ((q1e a w).getD []) < 0 := by
    intro hn
    have h5 := (j4k (by decide) h).2
    simp at h5
    omega
   have hlt : q19 hs ((q1e a w).getD []) < (hs.length : Int) := by
    unfold q19 at hf ⊢
    cases hx : hs.findIdx? (isH ((q1e a w).getD [])) with
    | none => rw [hx] at hf; simp at hf
    | some i =>
      have := (List.findIdx?_eq_some_iff_findIdx_eq.1 hx).1
      simp only []
      omega
   omega
theorem z3h {hs : List HN} (hl : hs.length ≤ 200) (k : Int) {V : BV} (hV : hs.length < 200 → VOk (hs ++ [(k, [])]) V) : VOk hs (q7t hs k V) := by
 unfold q7t
 split
 · exact q6w hl (by decide)
 · have := (hV (by omega)).1
   rw [List.length_append, List.length_singleton] at this
   exact ⟨by simp only [List.length_cons]; omega, fun _ => by simp only [List.length_cons]; omega⟩
theorem vok_union {hs : List HN} (hl : hs.length ≤ 200) {fN : JT → List HN → BV} (l : List JT) (hx : ∀ x ∈ l, ∀ hs', hs'.length ≤ 200 → VOk hs' (fN x hs')) : VOk hs (q46 fN hs l) := by
 unfold q46
 split
 · exact q6w hl (by decide)
 · split
   · exact q6w hl (by decide)
   · have h := z3a (hs := hs ++ [(13, [])]) l hx [] [] 0 (by simp; omega)
     rw [List.length_append, List.length_singleton] at h
     refine ⟨by simp only [List.length_cons]; omega, fun _ => ?_⟩
     simp only [List.length_cons]
     split <;> omega
theorem z7s {hs : List HN} (hl : hs.length ≤ 200) {fN : JT → List HN → BV} (e : Int) (j : JT) (n : NT) (hx : ∀ x ∈ (gt j q0q).its, ∀ hs', hs'.length ≤ 200 → jget x q0k ≠ none → VOk hs' (fN (gt x q0k) hs')) : VOk hs (q59 fN hs e j n) := by
 unfold q59
 split
 · rename_i h
   exact q6w hl h
 · rename_i h
   have hlt : hs.length < 200 := by
    have h5 : q45 hs e j = 0 := by simpa using h
    unfold q45 at h5
    have h6 := (j4k (by decide) h5).2
    simp at h6
    omega
   have h := z1t (hs := hs ++ [q0p n]) (gt j q0q).its hx [] [] 0 (by simp; omega)
   rw [List.length_append, List.length_singleton] at h
   refine ⟨by simp only [List.length_cons]; omega, fun _ => ?_⟩
   simp only [List.length_cons]
   split <;> omega
theorem j2z : ∀ (d : Nat) (j : JT) (a : List UInt8) (hs : List HN), hs.length ≤ 200 → VOk hs (q31 d j a hs)
 | 0, j, a, hs, hl => q6w hl (by decide)
 | d + 1, j, a, hs, hl => by
   unfold q31
   split
   · exact z3i hl _ _
   · split
     · exact vok_union hl _ fun x _ hs' h => j2z d x a hs' h
     · split
       · unfold j3j
         split
         · exact q6w hl (by decide)
         · split
           · unfold q7u
             split
             · exact q6w hl (by decide)
             · exact z3h hl _ fun h => j2z d _ a _ (by simp; omega)
           · split
             · unfold q7u
               split
               · exact q6w hl (by decide)
               · exact z3h hl _ fun h => j2z d _ a _ (by simp; omega)
             · split
               · exact z7s hl _ _ _ fun x _ hs' h _ => j2z d _ _ hs' h
               · split
                 · unfold q6h
                   split <;> exact j8c hl _ _
                 · split
                   · exact j8c hl _ _
                   · exact z3i hl _ _
       · exact q6w hl (by decide)

def mk {α : Type} (e : Int) (x : α) : BR α := if e = 0 then .ok x else .error e
theorem q2p {α : Type} (x : α) : mk 0 x = .ok x := rfl
theorem q16 {α : Type} {e : Int} (h : e ≠ 0) (x : α) : mk e x = .error e := if_neg h
theorem q74 (j : JT) (key : List UInt8) : q7g j key = mk (fl 0 ((gt j key).kd != 4) 30) (gt j key).txt := by
 unfold q7g gt
 cases h : jget j key with
 | none => rfl
 | some x =>
   simp only [Option.getD_some]
   by_cases hk : x.kd = 4
   · rw [if_pos hk, hk]; rfl
   · rw [if_neg hk, show (x.kd != 4) = true by simpa using hk]; rfl
theorem tlB_eq : ∀ xs : List JT, tlB xs = mk (fl 0 (xs.any fun y => y.kd != 4) 30) (xs.map JT.txt)
 | [] => rfl
 | x :: xs => by
   rw [tlB, tlB_eq xs, List.any_cons]
   by_cases hk : x.kd = 4
   · rw [if_pos hk, show (x.kd != 4) = false by simpa using hk, Bool.false_or]
     cases (xs.any fun y => y.kd != 4) <;> rfl
   · rw [if_neg hk, show (x.kd != 4) = true by simpa using hk, Bool.true_or]
     rfl
theorem j68 (x : JT) : q7s x = mk (q2u 0 x) (x.its.map JT.txt) := by
 unfold q7s q2u
 rw [tlB_eq]
 by_cases hk : x.kd = 5
 · rw [if_neg (by simpa using hk), show (x.kd != 5) = false by simpa using hk]
   cases (x.its.any fun y => y.kd != 4) with
   | true => rfl
   | false =>
     show (if 40 < (x.its.map JT.txt).length then Except.error 3 else Except.ok (x.its.map JT.txt)) = _
     rw [List.length_map]
     by_cases hl : 40 < x.its.length
     · rw [if_pos hl, show decide (40 < x.its.length) = true by simpa using hl]; rfl
     · rw [if_neg hl, show decide (40 < x.its.length) = false by simpa using hl]; rfl
 · rw [if_pos (by simpa using hk), show (x.kd != 5) = true by simpa using hk]
   rfl
theorem mapB_eq {full : List UInt8 → Option (List UInt8)} {v : List UInt8 → List UInt8} {ok : List UInt8 → Bool} (hv : ∀ s t, full s = some t → v s = t) (hok : ∀ s, ok s = (full s).isSome) : ∀ l, mapB full l = mk (fl 0 (l.any fun s => !ok s) 31) (l.map v)
 | [] => rfl
 | s :: l => by
   rw [mapB, mapB_eq hv hok l, List.any_cons, hok s]
   cases hs : full s with
   | none => rfl
   | some t =>
     simp only [Option.isSome_some, Bool.not_true, Bool.false_or, List.map_cons, hv s t hs]
     cases (l.any fun s => !ok s) <;> rfl
theorem z22 {e : Int} (he : e ≠ 0) (x : JT) : q2u e x = e := by
 unfold q2u
 rw [q1i _ _ _ he, q1i _ _ _ he, q1i _ _ _ he]
theorem q48 {e : Int} (he : e ≠ 0) (j : JT) (ok : List UInt8 → Bool) : q2z e j ok = e := by
 unfold q2z
 split
 · rw [z22 he, q1i _ _ _ he]
 · rfl
theorem j8z {full : List UInt8 → Option (List UInt8)} {v : List UInt8 → List UInt8} {ok : List UInt8 → Bool} (hv : ∀ s t, full s = some t → v s = t) (hok : ∀ s, ok s = (full s).isSome) (j : JT) : q7k full j = mk (q2z 0 j ok) (q3i j v) := by
 unfold q7k q2z q3i gt
 cases h : jget j q0z with
 | none => rfl
 | some x =>
   simp only [Option.isSome_some, if_true, Option.getD_some, j68]
   by_cases he : q2u 0 x = 0
   · rw [he, q2p]
     exact mapB_eq hv hok _
   · rw [q16 he, q1i _ _ _ he, q16 he]

theorem fl_t {c : Int} : fl 0 true c = c := rfl
theorem fl_f {c : Int} : fl 0 false c = 0 := rfl
theorem spaceB_eq (j : JT) (a : List UInt8) : j5m j a = mk (if (jget j q1d).isSome = true then fl 0 ((gt j q1d).kd != 4) 30 else 0) (if (jget j q1d).isSome = true then (gt j q1d).txt else a) := by
 unfold j5m
 cases h : jget j q1d with
 | none => rfl
 | some x =>
   simp only [q74, Option.isSome_some, if_true]
theorem z0k (hs : List HN) (j : JT) (k : Int) (a : List UInt8) : q64 hs j k a = mk (q27 hs j a) (q3u j k a) := by
 unfold q64
 rw [q74]
 by_cases h1 : fl 0 ((gt j q0x).kd != 4) 30 = 0
 rotate_left
 · rw [q16 h1]
   have hE : q27 hs j a = fl 0 ((gt j q0x).kd != 4) 30 := by
    unfold q27 q5n q4g
    split
    · rw [q1i _ _ _ h1, q1i _ _ _ h1, q1i _ _ _ h1, q48 h1]
    · rw [q1i _ _ _ h1, q1i _ _ _ h1, q48 h1]
   rw [hE, q16 h1]
 rw [h1, q2p, spaceB_eq]
 simp only []
 obtain ⟨e2, he2⟩ : ∃ e2, e2 = (if (jget j q1d).isSome = true then fl 0 ((gt j q1d).kd != 4) 30 else (0 : Int)) := ⟨_, rfl⟩
 have hE1 : q4g j = e2 := by
  unfold q4g
  rw [h1, he2]
 rw [← he2]
 by_cases h2 : e2 = 0
 rotate_left
 · rw [q16 h2]
   have hE : q27 hs j a = e2 := by
    unfold q27 q5n
    rw [hE1, q1i _ _ _ h2, q1i _ _ _ h2, q48 h2]
   rw [hE, q16 h2]
 rw [h2, q2p]
 simp only []
 rw [show q1e (if (jget j q1d).isSome = true then (gt j q1d).txt else a) (gt j q0x).txt = q1b j a from rfl]
 unfold q27 q5n
 rw [hE1, h2]
 unfold q3u
 cases hf : q1b j a with
 | none =>
   simp only [Option.isSome_none, Bool.not_false, Bool.true_or, fl_t]
   rw [q1i _ _ _ (by decide), q48 (by decide)]
   rfl
 | some f =>
   simp only [Option.isSome_some, Bool.not_true, Bool.false_or, Option.getD_some]
   by_cases hk : q0h f ≠ 0
   · rw [if_pos hk, show ((q0h f : Int) != 0) = true by simp; omega, fl_t, q1i _ _ _ (by decide), q48 (by decide)]
     rfl
   · rw [if_neg hk, show ((q0h f : Int) != 0) = false by simp; omega, fl_f]
     by_cases hd : 0 ≤ q19 hs f
     · rw [if_pos hd, show decide (0 ≤ q19 hs f) = true by simpa using hd, fl_t, q48 (by decide)]
       rfl
     · rw [if_neg hd, show decide (0 ≤ q19 hs f) = false by simpa using hd, fl_f]
       rw [j8z (v := fun s => (q1e (q1n f) s).getD []) (ok := fun s => (q1e (q1n f) s).isSome) (fun s t h => by simp only [h]; rfl) (fun s => rfl)]
       by_cases h5 : q2z 0 j (fun s => (q1e (q1n f) s).isSome) = 0
       · rw [h5]; rfl
       · rw [q16 h5, q16 h5]
theorem j4m (hs : List HN) (n : NT) : q3k hs n = mk (q2k hs 0 n).2.2 ((q2k hs 0 n).1, (q2k hs 0 n).2.1) := by
 unfold q3k q2k
 by_cases h : 200 ≤ hs.length
 · rw [if_pos h, show decide (200 ≤ hs.length) = true by simpa using h]; rfl
 · rw [if_neg h, show decide (200 ≤ hs.length) = false by simpa using h]; rfl
theorem q8p {hs : List HN} {e : Int} (he : e ≠ 0) (n : NT) : q2k hs e n = ([], 0, e) := by
 unfold q2k
 rw [q1i _ _ _ he, if_pos he]
def BRel (V : BV) (B : BR (List NT × Int)) : Prop := B = mk V.2.2 (V.1, V.2.1)
theorem z3u (hs : List HN) (w a : List UInt8) : BRel (q6f hs w a) (q5h hs w a) := by
 unfold BRel q5h q6f
 by_cases hk : 1 ≤ q0h w ∧ q0h w ≤ 8
 · rw [if_pos hk, if_pos hk]
   exact j4m hs _
 · rw [if_neg hk, if_neg hk]
   cases hf : q1e a w with
   | none =>
     simp only [Option.isSome_none, Bool.not_false, fl_t]
     rw [q1i _ _ _ (by decide)]
     rfl
   | some f =>
     simp only [Option.isSome_some, Bool.not_true, fl_f, Option.getD_some]
     by_cases hd : q19 hs f < 0
     · rw [if_pos hd, show decide (q19 hs f < 0) = true by simpa using hd]; rfl
     · rw [if_neg hd, show decide (q19 hs f < 0) = false by simpa using hd, fl_f, q2p, show max (q19 hs f) 0 = q19 hs f by omega]
theorem fixed_rel (hs : List HN) (j : JT) (n : NT) : BRel (q6j hs 0 j n) (q7n hs j n) := by
 unfold BRel q7n q6j j2e
 rw [show (jget j q1z).getD q39 = gt j q1z from rfl]
 by_cases hk : (gt j q1z).kd ≠ 3
 · rw [if_pos hk, show ((gt j q1z).kd != 3) = true by simpa using hk, fl_t, q1i _ _ _ (by decide), q8p (by decide)]
   rfl
 · rw [if_neg hk, show ((gt j q1z).kd != 3) = false by simpa using hk, fl_f]
   by_cases hb : (gt j q1z).num < 0 ∨ 1000 < (gt j q1z).num
   · rw [if_pos hb, show (decide ((gt j q1z).num < 0) || decide (1000 < (gt j q1z).num)) = true by simpa using hb, fl_t, q8p (by decide)]
     rfl
   · rw [if_neg hb, show (decide ((gt j q1z).num < 0) || decide (1000 < (gt j q1z).num)) = false by simpa using hb, fl_f]
     exact j4m hs _

structure Fits (full : List NT) (hs : List HN) (new : List NT) : Prop where
 heads : ∀ (i : Nat) (h : HN), hs[i]? = some h → ∃ n, full[i]? = some n ∧ q0p n = h
 nodes : ∀ (i : Nat) (n : NT), new[i]? = some n → full[hs.length + i]? = some n
theorem Fits.kind {full : List NT} {hs : List HN} {new : List NT} (h : Fits full hs new) {k : Nat} (hk : k < hs.length) : q6n full k = q2r hs k := by
 obtain ⟨n, h1, h2⟩ := h.heads k _ (List.getElem?_eq_getElem hk)
 unfold q6n q2r
 rw [h1, List.getElem?_eq_getElem hk, ← h2]
 rfl
theorem Fits.left {full : List NT} {hs : List HN} {a b : List NT} (h : Fits full hs (a ++ b)) : Fits full hs a :=
 ⟨h.heads, fun i n hn => h.nodes i n (by rw [List.getElem?_append_left (List.getElem?_eq_some_iff.1 hn).1]; exact hn)⟩
theorem Fits.right {full : List NT} {hs : List HN} {a b : List NT} (h : Fits full hs (a ++ b)) : Fits full (hs ++ a.map q0p) b := by
 refine ⟨fun i x hx => ?_, fun i n hn => ?_⟩
 · by_cases hi : i < hs.length
   · rw [List.getElem?_append_left hi] at hx
     exact h.heads i x hx
   · rw [List.getElem?_append_right (by omega), List.getElem?_map] at hx
     obtain ⟨n, h1, rfl⟩ := Option.map_eq_some_iff.1 hx
     have := h.nodes (i - hs.length) n (by rw [List.getElem?_append_left (List.getElem?_eq_some_iff.1 h1).1]; exact h1)
     rw [show hs.length + (i - hs.length) = i by omega] at this
     exact ⟨n, this, rfl⟩
 · have := h.nodes (a.length + i) n (by rw [List.getElem?_append_right (by omega), show a.length + i - a.length = i by omega]; exact hn)
   rw [List.length_append, List.length_map, Nat.add_assoc]
   exact this
def OrdN (d : Nat) (hs : List HN) (new : List NT) (k : Int) : Prop :=
 (new = [] ∧ 0 ≤ k ∧ k < (hs.length : Int) ∧ q1w (q2r hs k.toNat) = true) ∨
 (k = (hs.length : Int) ∧ new ≠ [] ∧ hs.length + new.length ≤ 200 ∧ ∀ full, Fits full hs new → q21 full d hs.length = (true, hs.length + new.length))
def q8e (d : Nat) (f : q18) : Prop := ∀ hs j a new k, hs.length ≤ 200 → f hs j a = .ok (new, k) → OrdN d hs new k
theorem OrdN.len {d : Nat} {hs : List HN} {new : List NT} {k : Int} (hl : hs.length ≤ 200) (h : OrdN d hs new k) : hs.length + new.length ≤ 200 := by
 rcases h with ⟨rfl, _⟩ | ⟨_, _, h, _⟩
 · simpa using hl
 · exact h
theorem OrdN.lt {d : Nat} {hs : List HN} {new : List NT} {k : Int} (h : OrdN d hs new k) : 0 ≤ k ∧ k < ((hs.length + new.length : Nat) : Int) := by
 rcases h with ⟨rfl, h1, h2, _⟩ | ⟨rfl, h1, _⟩
 · simp; omega
 · have := List.length_pos_iff.2 h1
   omega
theorem OrdN.step {d : Nat} {hs : List HN} {new : List NT} {k : Int} (h : OrdN d hs new k) {full : List NT} (hf : Fits full hs new) {ks : List Int} {q : Nat} (hr : q3x full (q21 full d) ks (hs.length + new.length) = (true, q)) :
  q3x full (q21 full d) (k :: ks) hs.length = (true, q) := by
 rw [q3x]
 rcases h with ⟨rfl, h1, h2, h3⟩ | ⟨rfl, _, _, h⟩
 · rw [if_neg (by omega), if_neg (by
    rw [hf.kind (by omega), h3]
    simp
    omega)]
   simpa using hr
 · rw [if_pos rfl, h full hf]
   simpa using hr
theorem z3c {d : Nat} {f : q18} (hf : q8e d f) (hs : List HN) (a : List UInt8) : ∀ (xs : List JT) (ks : List Int) (new : List NT) (ks' : List Int) (new' : List NT), hs.length + new.length ≤ 200 → q3f f hs a xs ks new = .ok (ks', new') →
  ∃ ks1 m, ks' = ks ++ ks1 ∧ new' = new ++ m ∧ hs.length + new'.length ≤ 200 ∧ ∀ full, Fits full hs new' → q3x full (q21 full d) ks1 (hs.length + new.length) = (true, hs.length + new'.length)
 | [], ks, new, ks', new', hl, h => by
   rw [q3f] at h
   injection h with h
   injection h with h1 h2
   subst h1 h2
   exact ⟨[], [], by simp, by simp, hl, fun full _ => rfl⟩
 | x :: xs, ks, new, ks', new', hl, h => by
   rw [q3f] at h
   split at h
   · simp at h
   · rename_i m k hk
     split at h
     · have ho := hf _ _ _ _ _ (by simpa using hl) hk
       have hol := ho.len (by simpa using hl)
       simp only [List.length_append, List.length_map] at hol
       obtain ⟨ks1, m1, h1, h2, h3, h4⟩ := z3c hf hs a xs _ _ _ _ (by simp; omega) h
       refine ⟨k :: ks1, m ++ m1, by rw [h1]; simp, by rw [h2]; simp, h3, fun full hfit => ?_⟩
       have h5 := h4 full hfit
       rw [h2] at hfit
       have h6 := ho.step (full := full) hfit.left.right (ks := ks1) (q := hs.length + new'.length) (by
        rw [List.length_append] at h5
        rw [List.length_append, List.length_map, Nat.add_assoc]
        exact h5)
       rw [List.length_append, List.length_map] at h6
       exact h6
     · simp at h
theorem j92 {d : Nat} {f : q18} (hf : q8e d f) (hs : List HN) (a : List UInt8) : ∀ (xs : List JT) (fs : List FT) (new : List NT) (fs' : List FT) (new' : List NT), hs.length + new.length ≤ 200 → q3d f hs a xs fs new = .ok (fs', new') →
  ∃ fs1 m, fs' = fs ++ fs1 ∧ new' = new ++ m ∧ hs.length + new'.length ≤ 200 ∧ ∀ full, Fits full hs new' → q3x full (q21 full d) (fs1.map (·.type)) (hs.length + new.length) = (true, hs.length + new'.length)
 | [], fs, new, fs', new', hl, h => by
   rw [q3d] at h
   injection h with h
   injection h with h1 h2
   subst h1 h2
   exact ⟨[], [], by simp, by simp, hl, fun full _ => rfl⟩
 | x :: xs, fs, new, fs', new', hl, h => by
   rw [q3d] at h
   split at h
   · simp at h
   · rename_i g hg
     split at h
     · simp at h
     · rename_i m k hk
       have ho := hf _ _ _ _ _ (by simpa using hl) hk
       have hol := ho.len (by simpa using hl)
       simp only [List.length_append, List.length_map] at hol
       obtain ⟨fs1, m1, h1, h2, h3, h4⟩ := j92 hf hs a xs _ _ _ _ (by simp; omega) h
       refine ⟨{ g with type := k } :: fs1, m ++ m1, by rw [h1]; simp, by rw [h2]; simp, h3, fun full hfit => ?_⟩
       have h5 := h4 full hfit
       rw [h2] at hfit
       have h6 := ho.step (full := full) hfit.left.right (ks := fs1.map (·.type)) (q := hs.length + new'.length) (by
        rw [List.length_append] at h5
        rw [List.length_append, List.length_map, Nat.add_assoc]
        exact h5)
       rw [List.length_append, List.length_map] at h6
       exact h6
theorem j4o {d : Nat} {hs : List HN} {n : NT} (hk : q28 n = []) {new : List NT} {k : Int} (h : q3k hs n = .ok (new, k)) : OrdN (d + 1) hs new k := by
 unfold q3k at h
 split at h
 · simp at h
 · injection h with h
   injection h with h1 h2
   subst h1 h2
   refine .inr ⟨rfl, by simp, by simp; omega, fun full hf => ?_⟩
   have := hf.nodes 0 n rfl
   rw [q21, show full[hs.length]? = some n from this]
   simp only []
   rw [hk, q3x]
   rfl
theorem findH_ok {hs : List HN} {name : List UInt8} (h : ¬ q19 hs name < 0) : 0 ≤ q19 hs name ∧ q19 hs name < (hs.length : Int) ∧ q1w (q2r hs (q19 hs name).toNat) = true := by
 unfold q19 at h ⊢
 cases hf : hs.findIdx? (isH name) with
 | none => rw [hf] at h; simp at h
 | some i =>
   obtain ⟨h1, h2, _⟩ := List.findIdx?_eq_some_iff_getElem.1 hf
   simp only []
   refine ⟨by omega, by omega, ?_⟩
   rw [Int.toNat_natCast, q2r, List.getElem?_eq_getElem h1]
   unfold isH at h2
   simp only [Bool.and_eq_true] at h2
   exact h2.1
theorem z3t {d : Nat} {hs : List HN} {w a : List UInt8} {new : List NT} {k : Int} (h : q5h hs w a = .ok (new, k)) : OrdN (d + 1) hs new k := by
 unfold q5h at h
 split at h
 · rename_i hk
   refine j4o ?_ h
   unfold q28 q1g
   simp only []
   rw [if_neg (by omega), if_neg (by omega), if_neg (by omega)]
 · split at h
   · simp at h
   · split at h
     · simp at h
     · rename_i hn
       injection h with h
       injection h with h1 h2
       subst h1 h2
       obtain ⟨a1, a2, a3⟩ := findH_ok hn
       exact .inl ⟨rfl, a1, a2, a3⟩
theorem j60 {d : Nat} {hs : List HN} {n : NT} {m : List NT} (hh : hs.length < 200) (hl : hs.length + 1 + m.length ≤ 200) (hw : ∀ full, Fits full (hs ++ [q0p n]) m → q3x full (q21 full d) (q28 n) (hs.length + 1) = (true, hs.length + 1 + m.length)) : OrdN (d + 1) hs (n :: m) (hs.length : Int) := by
 refine .inr ⟨rfl, by simp, by simp; omega, fun full hf => ?_⟩
 have := hf.nodes 0 n rfl
 rw [q21, show full[hs.length]? = some n from this]
 simp only []
 have hf2 : Fits full hs ([n] ++ m) := hf
 have := hw full hf2.right
 rw [this]
 simp
 omega
theorem union_ord {d : Nat} {f : q18} (hf : q8e d f) {hs : List HN} {l : List JT} {a : List UInt8} {new : List NT} {k : Int} (h : q6d f hs l a = .ok (new, k)) : OrdN (d + 1) hs new k := by
 unfold q6d at h
 split at h
 · simp at h
 split at h
 · simp at h
 rename_i h200
 split at h
 · simp at h
 · rename_i ks m hu
   injection h with h
   injection h with h1 h2
   subst h1 h2
   obtain ⟨ks1, m1, e1, e2, h3, h4⟩ := z3c hf _ a l [] [] ks m (by simp; omega) hu
   simp only [List.nil_append] at e1 e2
   subst e1 e2
   simp only [List.length_append, List.length_singleton, List.length_nil, Nat.add_zero] at h3 h4
   exact j60 (by omega) h3 fun full hf => by
    unfold q28 q1g
    simp only []
    rw [if_neg (by decide), if_neg (by decide), if_pos trivial]
    exact h4 full hf
theorem z06 {d : Nat} {f : q18} (hf : q8e d f) {hs : List HN} {j : JT} {kd : Int} (hkd : kd = 11 ∨ kd = 12) {key a : List UInt8} {new : List NT} {k : Int} (h : q5o f hs j kd key a = .ok (new, k)) : OrdN (d + 1) hs new k := by
 unfold q5o at h
 split at h
 · simp at h
 split at h
 · simp at h
 rename_i h200
 split at h
 · simp at h
 · rename_i m i hu
   injection h with h
   injection h with h1 h2
   subst h1 h2
   have ho := hf _ _ _ _ _ (by simp; omega) hu
   have hol := ho.len (by simp; omega)
   simp only [List.length_append, List.length_singleton] at hol
   exact j60 (by omega) hol fun full hfit => by
    unfold q28 q1g
    simp only []
    rw [if_neg (by omega), if_pos hkd]
    have := ho.step (full := full) hfit (ks := []) (q := hs.length + 1 + m.length) (by simp [q3x])
    rw [List.length_append, List.length_singleton] at this
    exact this
theorem z55 {d : Nat} {f : q18} (hf : q8e d f) {hs : List HN} {j : JT} {n : NT} (hn : n.kind = 9) {new : List NT} {k : Int} (h : q6r f hs j n = .ok (new, k)) : OrdN (d + 1) hs new k := by
 unfold q6r at h
 split at h
 · simp at h
 split at h
 · simp at h
 split at h
 · simp at h
 rename_i h200
 split at h
 · simp at h
 · rename_i fs m hu
   injection h with h
   injection h with h1 h2
   subst h1 h2
   obtain ⟨fs1, m1, e1, e2, h3, h4⟩ := j92 hf _ _ _ [] [] fs m (by simp; omega) hu
   simp only [List.nil_append] at e1 e2
   subst e1 e2
   simp only [List.length_append, List.length_singleton, List.length_nil, Nat.add_zero] at h3 h4
   exact j60 (by omega) h3 fun full hf => by
    unfold q28
    simp only []
    rw [if_pos hn]
    exact h4 full hf
theorem head_kind {hs : List HN} {j : JT} {k : Int} {a : List UInt8} {n : NT} (h : q64 hs j k a = .ok n) : ∃ f l, n = ⟨k, f, l, [], [], false, [], 0, 0, []⟩ := by
 unfold q64 at h
 split at h
 · simp at h
 split at h
 · simp at h
 split at h
 · simp at h
 split at h
 · simp at h
 split at h
 · simp at h
 split at h
 · simp at h
 · injection h with h
   exact ⟨_, _, h.symm⟩
theorem z5m {d : Nat} {f : q18} (hf : q8e d f) {hs : List HN} {j : JT} {a : List UInt8} {new : List NT} {k : Int} (h : q5p f hs j a = .ok (new, k)) : OrdN (d + 1) hs new k := by
 unfold q5p at h
 split at h
 · simp at h
 split at h
 · exact z06 hf (.inl rfl) h
 split at h
 · exact z06 hf (.inr rfl) h
 split at h
 · rename_i hnk
   split at h
   · simp at h
   · rename_i n hn
     obtain ⟨nm, l, rfl⟩ := head_kind hn
     split at h
     · rename_i h9
       exact z55 hf (by simp only []; omega) h
     split at h
     · rename_i h9 h10
       unfold q63 at h
       split at h
       · simp at h
       split at h
       · simp at h
       split at h
       · simp at h
       split at h
       · exact j4o (by unfold q28; simp only []; rw [if_neg (by omega), if_neg (by omega), if_neg (by omega)]) h
       split at h
       · simp at h
       split at h
       · exact j4o (by unfold q28; simp only []; rw [if_neg (by omega), if_neg (by omega), if_neg (by omega)]) h
       · simp at h
     · rename_i h9 h10
       unfold q7n at h
       simp only [q1w, Bool.or_eq_true, beq_iff_eq] at hnk
       split at h
       · simp at h
       split at h
       · simp at h
       · refine j4o ?_ h
         unfold q28
         simp only []
         rw [if_neg (by omega), if_neg (by omega), if_neg (by omega)]
 · exact z3t h
theorem j41 : ∀ d, q8e d (q3e d)
 | 0 => fun hs j a new k _ h => by rw [q3e] at h; simp at h
 | d + 1 => fun hs j a new k hl h => by
   rw [q3e] at h
   simp only [] at h
   split at h
   · exact z3t h
   split at h
   · exact union_ord (j41 d) h
   split at h
   · exact z5m (j41 d) h
   · simp at h
theorem j51 {j : JT} {s : ST} (h : q49 j = .ok s) : q5s s = true := by
 unfold q49 at h
 split at h
 · split at h
   · simp at h
   · rename_i ns k hn
     injection h with h
     subst h
     rcases j41 33 [] j [] ns k (by simp) hn with ⟨_, h1, h2, _⟩ | ⟨_, _, h2, h3⟩
     · simp at h2; omega
     · have h4 := h3 ns ⟨fun i h hi => by simp at hi, fun i n hi => by simpa using hi⟩
       simp only [List.length_nil, Nat.zero_add] at h2 h4
       have hne : ns ≠ [] := by
        rintro rfl
        rw [q21] at h4
        simp at h4
       have : 0 < ns.length := List.length_pos_iff.2 hne
       unfold q5s
       simp only []
       rw [h4]
       simp
       omega
 · simp at h

/-! Trees' parts. -/
theorem q7o {j i : JT} {key : List UInt8} (h : jget j key = some i) : j.kd = 6 ∧ i ∈ j.its := by
 cases j with
 | mk k n s ks xs =>
   unfold jget at h
   simp only [] at h
   split at h
   · rename_i hk
     exact ⟨hk.1, List.mem_of_getElem? h⟩
   · simp at h
structure Ok (D : Nat) (j : JT) : Prop where
 shape : q4y j = true
 deep : q1y j ≤ D
theorem z19 : ∀ {xs : List JT}, q5u xs = true → ∀ x ∈ xs, q4y x = true
 | x :: xs, h, y, hy => by
   rw [q5u, Bool.and_eq_true] at h
   rcases List.mem_cons.1 hy with rfl | hy
   · exact h.1
   · exact z19 h.2 y hy
theorem Ok.item {D : Nat} {j x : JT} (h : Ok D j) (hk : j.kd = 5 ∨ j.kd = 6) (hx : x ∈ j.its) : 1 ≤ D ∧ Ok (D - 1) x := by
 obtain ⟨h1, h2⟩ := h
 cases j with
 | mk k n s ks xs =>
   simp only [JT.kd, JT.its] at hk hx
   rw [q1y, if_pos hk] at h2
   have := (j5n xs 1).2 x hx
   rw [q4y, Bool.and_eq_true] at h1
   exact ⟨by omega, z19 h1.2 x hx, by omega⟩
theorem Ok.get {D : Nat} {j x : JT} (h : Ok D j) {key : List UInt8} (hx : jget j key = some x) : 1 ≤ D ∧ Ok (D - 1) x := by
 obtain ⟨h1, h2⟩ := q7o hx
 exact h.item (.inr h1) h2
theorem Ok.right {D : Nat} {j : JT} (h : Ok D j) (hD : D ≤ 32) : jR j = true := by
 rw [j3f, h.shape]
 have := h.deep
 simp
 omega
theorem Ok.mono {D E : Nat} {j : JT} (h : Ok D j) (he : D ≤ E) : Ok E j := ⟨h.shape, Nat.le_trans h.deep he⟩
/-! Names. -/
/-! Nodes. -/

/-! Names are not told twice. -/

/-! How much a tree's depth lets it be built with. -/
theorem j3e {j x : JT} (hk : j.kd = 5 ∨ j.kd = 6) (hx : x ∈ j.its) : q1y x + 1 ≤ q1y j := by
 cases j with
 | mk k n s ks xs =>
   simp only [JT.kd, JT.its] at hk hx
   rw [q1y, if_pos hk]
   exact (j5n xs 1).2 x hx
theorem j2h {j x : JT} {key : List UInt8} (h : jget j key = some x) : q1y x + 1 ≤ q1y j := by
 obtain ⟨h1, h2⟩ := q7o h
 exact j3e (.inr h1) h2
theorem z5k (d : Nat) (hs : List HN) (j : JT) (a : List UInt8) : q3e (d + 1) hs j a = if j.kd = 4 then q5h hs j.txt a else if j.kd = 5 then q6d (q3e d) hs j.its a else if j.kd = 6 then q5p (q3e d) hs j a else .error 30 := rfl
/-! Places behind one more node. -/

def q65 (s : ST) : Bool := (List.range s.nodes.length).any fun i => decide (1000 < wOf s.nodes i)
noncomputable def q36 (j : JT) : ST × Int := match q49 j with
 | .error e => (⟨[], 0⟩, e)
 | .ok s => if q65 s = true then (⟨[], 0⟩, 3) else (s, 0)
theorem heavy_no {s : ST} (h : q65 s = false) : ∀ i, i < s.nodes.length → wOf s.nodes i ≤ 1000 := fun i hi => by
 unfold q65 at h
 rw [List.any_eq_false] at h
 have := h i (List.mem_range.2 hi)
 simpa using this
theorem heavy_of {s : ST} (h : ∀ i, i < s.nodes.length → wOf s.nodes i ≤ 1000) : q65 s = false := by
 unfold q65
 rw [List.any_eq_false]
 intro i hi
 have := h i (List.mem_range.1 hi)
 simpa using this
/-! A refusal has a number. -/
theorem j3r {j : JT} {key : List UInt8} {e : Int} (h : q7g j key = .error e) : e = 30 := by
 unfold q7g at h
 repeat' split at h
 all_goals simp_all
theorem tlB_err : ∀ {l : List JT} {e : Int}, tlB l = .error e → e = 30
 | [], e, h => by simp [tlB] at h
 | x :: xs, e, h => by
   rw [tlB] at h
   split at h
   · split at h
     · simp at h
     · rename_i e' he
       injection h with h
       subst h
       exact tlB_err he
   · injection h with h
     exact h.symm
theorem z00 {x : JT} {e : Int} (h : q7s x = .error e) : e ≠ 0 := by
 unfold q7s at h
 split at h
 · injection h with h; omega
 · split at h
   · split at h
     · injection h with h; omega
     · simp at h
   · rename_i e' he
     injection h with h
     have := tlB_err he
     omega
theorem z08 {full : List UInt8 → Option (List UInt8)} : ∀ {l : List (List UInt8)} {e : Int}, mapB full l = .error e → e = 31
 | [], e, h => by simp [mapB] at h
 | x :: xs, e, h => by
   rw [mapB] at h
   split at h
   · injection h with h
     exact h.symm
   · split at h
     · simp at h
     · rename_i e' he
       injection h with h
       subst h
       exact z08 he
theorem j80 {full : List UInt8 → Option (List UInt8)} {j : JT} {e : Int} (h : q7k full j = .error e) : e ≠ 0 := by
 unfold q7k at h
 split at h
 · simp at h
 · split at h
   · have := z08 h
     omega
   · rename_i e' he
     injection h with h
     subst h
     exact z00 he
theorem j4n {hs : List HN} {n : NT} {e : Int} (h : q3k hs n = .error e) : e ≠ 0 := by
 unfold q3k at h
 split at h
 · injection h with h; omega
 · simp at h
theorem z3s {hs : List HN} {w a : List UInt8} {e : Int} (h : q5h hs w a = .error e) : e ≠ 0 := by
 unfold q5h at h
 split at h
 · exact j4n h
 · split at h
   · injection h with h; omega
   · split at h
     · injection h with h; omega
     · simp at h
theorem headB_err {hs : List HN} {j : JT} {k : Int} {a : List UInt8} {e : Int} (h : q64 hs j k a = .error e) : e ≠ 0 := by
 unfold q64 at h
 split at h
 · rename_i e' he
   injection h with h
   have := j3r he
   omega
 split at h
 · rename_i e' he
   injection h with h
   subst h
   unfold j5m at he
   split at he
   · simp at he
   · have := j3r he
     omega
 split at h
 · injection h with h; omega
 split at h
 · injection h with h; omega
 split at h
 · injection h with h; omega
 split at h
 · rename_i e' he
   injection h with h
   subst h
   exact j80 he
 · simp at h
theorem z44 {x : JT} {l : List FT} {e : Int} (h : q8n x l = .error e) : e ≠ 0 := by
 unfold q8n at h
 split at h
 · injection h with h; omega
 split at h
 · rename_i e' he
   injection h with h
   have := j3r he
   omega
 split at h
 · injection h with h; omega
 split at h
 · injection h with h; omega
 split at h
 · rename_i e' he
   injection h with h
   subst h
   exact j80 he
 split at h
 · injection h with h; omega
 · simp at h
def ErrB (f : q18) : Prop := ∀ hs j a e, f hs j a = .error e → e ≠ 0
theorem z3b {f : q18} (hf : ErrB f) {hs : List HN} {a : List UInt8} : ∀ {xs : List JT} {ks : List Int} {new : List NT} {e : Int}, q3f f hs a xs ks new = .error e → e ≠ 0
 | [], ks, new, e, h => by simp [q3f] at h
 | x :: xs, ks, new, e, h => by
   rw [q3f] at h
   split at h
   · rename_i e' he
     injection h with h
     subst h
     exact hf _ _ _ _ he
   · split at h
     · exact z3b hf h
     · injection h with h; omega
theorem j91 {f : q18} (hf : ErrB f) {hs : List HN} {a : List UInt8} : ∀ {xs : List JT} {fs : List FT} {new : List NT} {e : Int}, q3d f hs a xs fs new = .error e → e ≠ 0
 | [], ks, new, e, h => by simp [q3d] at h
 | x :: xs, ks, new, e, h => by
   rw [q3d] at h
   split at h
   · rename_i e' he
     injection h with h
     subst h
     exact z44 he
   · split at h
     · rename_i e' he
       injection h with h
       subst h
       exact hf _ _ _ _ he
     · exact j91 hf h
theorem z2v : ∀ {l done : List (List UInt8)} {e : Int}, q3p done l = .error e → e ≠ 0
 | [], done, e, h => by simp [q3p] at h
 | x :: xs, done, e, h => by
   rw [q3p] at h
   split at h
   · injection h with h; omega
   split at h
   · injection h with h; omega
   · exact z2v h
theorem j2q : ∀ d, ErrB (q3e d)
 | 0 => fun hs j a e h => by rw [q3e] at h; injection h with h; omega
 | d + 1 => fun hs j a e h => by
   have ih := j2q d
   rw [z5k] at h
   split at h
   · exact z3s h
   split at h
   · unfold q6d at h
     split at h
     · injection h with h; omega
     split at h
     · injection h with h; omega
     split at h
     · rename_i e' he
       injection h with h
       subst h
       exact z3b ih he
     · simp at h
   split at h
   · have hm : ∀ kd key, q5o (q3e d) hs j kd key a = .error e → e ≠ 0 := fun kd key h => by
      unfold q5o at h
      split at h
      · injection h with h; omega
      split at h
      · injection h with h; omega
      split at h
      · rename_i e' he
        injection h with h
        subst h
        exact ih _ _ _ _ he
      · simp at h
     unfold q5p at h
     split at h
     · rename_i e' he
       injection h with h
       have := j3r he
       omega
     split at h
     · exact hm _ _ h
     split at h
     · exact hm _ _ h
     split at h
     · split at h
       · rename_i e' he
         injection h with h
         subst h
         exact headB_err he
       split at h
       · unfold q6r at h
         split at h
         · injection h with h; omega
         split at h
         · injection h with h; omega
         split at h
         · injection h with h; omega
         split at h
         · rename_i e' he
           injection h with h
           subst h
           exact j91 ih he
         · simp at h
       split at h
       · unfold q63 at h
         split at h
         · rename_i e' he
           injection h with h
           subst h
           exact z00 he
         split at h
         · injection h with h; omega
         split at h
         · rename_i e' he
           injection h with h
           subst h
           exact z2v he
         split at h
         · exact j4n h
         split at h
         · rename_i e' he
           injection h with h
           have := j3r he
           omega
         split at h
         · exact j4n h
         · injection h with h; omega
       · unfold q7n at h
         split at h
         · injection h with h; omega
         split at h
         · injection h with h; omega
         · exact j4n h
     · exact z3s h
   · injection h with h; omega
/-! A union of one. -/

theorem f30 {b : Bool} {c : Int} : fl 30 b c = 30 := q1i 30 _ _ (by decide)
theorem f31 {b : Bool} {c : Int} : fl 31 b c = 31 := q1i 31 _ _ (by decide)
theorem f36 {b : Bool} {c : Int} : fl 36 b c = 36 := q1i 36 _ _ (by decide)
theorem f3 {b : Bool} {c : Int} : fl 3 b c = 3 := q1i 3 _ _ (by decide)
theorem al30 {j : JT} {ok : List UInt8 → Bool} : q2z 30 j ok = 30 := q48 (by decide) _ _
theorem al31 {j : JT} {ok : List UInt8 → Bool} : q2z 31 j ok = 31 := q48 (by decide) _ _
theorem al36 {j : JT} {ok : List UInt8 → Bool} : q2z 36 j ok = 36 := q48 (by decide) _ _
theorem mk_err {α : Type} {e e' : Int} (h : e' = e) (he : e ≠ 0) (x : α) : mk e' x = .error e := by
 rw [h]
 exact q16 he x
theorem j6f (x : JT) (fs : List FT) : q8n x fs = mk (q29 0 x fs) (q6i x) := by
 unfold q8n q29 q53 q6i
 by_cases hk : x.kd ≠ 6
 · rw [if_pos hk, show (x.kd != 6) = true by simpa using hk]
   simp only [fl_t, f30, al30]
   rfl
 rw [if_neg hk, show (x.kd != 6) = false by simpa using hk, fl_f, q74]
 by_cases h1 : fl 0 ((gt x q0x).kd != 4) 30 = 0
 rotate_left
 · rw [q16 h1, q1i _ _ _ h1, q1i _ _ _ h1, q48 h1, q1i _ _ _ h1, q16 h1]
 rw [h1, q2p]
 simp only []
 by_cases hs : q1h (gt x q0x).txt = false
 · rw [if_pos hs, hs, Bool.not_false]
   simp only [fl_t, f31, al31]
   rfl
 rw [if_neg hs, show q1h (gt x q0x).txt = true by simpa using hs, Bool.not_true, fl_f]
 by_cases ha : (fs.any fun f => f.name == (gt x q0x).txt) = true
 · rw [if_pos ha, ha]
   simp only [fl_t, f36, al36]
   rfl
 rw [if_neg ha, show (fs.any fun f => f.name == (gt x q0x).txt) = false by simpa using ha, fl_f]
 rw [j8z (v := id) (ok := q1h) (fun s t h => by
  unfold selfM at h
  split at h
  · exact Option.some.inj h
  · simp at h) (fun s => by unfold selfM; split <;> simp_all)]
 by_cases h5 : q2z 0 x q1h = 0
 rotate_left
 · rw [q16 h5, q1i _ _ _ h5, q16 h5]
 rw [h5, q2p]
 simp only []
 cases ht : jget x q0k with
 | none => rfl
 | some t => rfl
theorem j2y {e : Int} (he : e ≠ 0) : ∀ (l done : List (List UInt8)), symE e done l = e
 | [], done => rfl
 | s :: l, done => by rw [symE, q1i _ _ _ he, q1i _ _ _ he, j2y he l]
theorem z2u : ∀ (l done : List (List UInt8)), q3p done l = mk (symE 0 done l) ()
 | [], done => rfl
 | s :: l, done => by
   rw [q3p, symE]
   by_cases hs : q1h s = false
   · rw [if_pos hs, hs, Bool.not_false]
     simp only [fl_t, f31]
     rw [j2y (by decide)]
     rfl
   · rw [if_neg hs, show q1h s = true by simpa using hs, Bool.not_true, fl_f]
     by_cases hd : s ∈ done
     · rw [if_pos hd, show done.contains s = true by simpa using hd, fl_t, j2y (by decide)]
       rfl
     · rw [if_neg hd, show done.contains s = false by simpa using hd, fl_f]
       exact z2u l (done ++ [s])
theorem enumV_no {hs : List HN} {e : Int} (he : e ≠ 0) (j : JT) (n : NT) : q6h hs e j n = ([], 0, e) := by
 unfold q6h q6b
 rw [z22 he, q1i _ _ _ he, j2y he, q1i _ _ _ he, q1i _ _ _ he]
 split <;> exact q8p he _
theorem j6e {hs : List HN} {j : JT} {n : NT} {e : Int} (h : q6b 0 (gt j q1j) = e) (he : e ≠ 0) : q6h hs 0 j n = ([], 0, e) := by
 unfold q6h
 rw [h, q1i _ _ _ he, q1i _ _ _ he]
 split <;> exact q8p he _
theorem enum_rel (hs : List HN) (j : JT) (n : NT) (hn : n.has = false) : BRel (q6h hs 0 j n) (q63 hs j n) := by
 unfold BRel q63
 rw [show (jget j q1j).getD q39 = gt j q1j from rfl, j68]
 by_cases h1 : q2u 0 (gt j q1j) = 0
 rotate_left
 · have hS : q6b 0 (gt j q1j) = q2u 0 (gt j q1j) := by
    unfold q6b
    rw [q1i _ _ _ h1, j2y h1]
   rw [q16 h1, j6e hS h1]
   exact (q16 h1 _).symm
 rw [h1, q2p]
 simp only []
 have hlen : ((gt j q1j).its.map JT.txt = []) ↔ ((gt j q1j).its.length : Int) = 0 := by
  rw [List.map_eq_nil_iff, ← List.length_eq_zero_iff]
  omega
 by_cases h2 : (gt j q1j).its.map JT.txt = []
 · have hS : q6b 0 (gt j q1j) = 30 := by
    unfold q6b
    rw [h1, show decide (((gt j q1j).its.length : Int) = 0) = true from decide_eq_true (hlen.1 h2), fl_t, j2y (by decide)]
   rw [if_pos h2, j6e hS (by decide)]
   rfl
 have hS : q6b 0 (gt j q1j) = symE 0 [] ((gt j q1j).its.map JT.txt) := by
  unfold q6b
  rw [h1, show decide (((gt j q1j).its.length : Int) = 0) = false from decide_eq_false fun h => h2 (hlen.2 h), fl_f]
 rw [if_neg h2, z2u]
 by_cases h3 : symE 0 [] ((gt j q1j).its.map JT.txt) = 0
 rotate_left
 · rw [q16 h3, j6e hS h3]
   exact (q16 h3 _).symm
 rw [h3] at hS
 rw [h3, q2p]
 simp only []
 unfold q6h
 rw [hS]
 cases hd : jget j q1q with
 | none =>
   rw [Option.isSome_none, if_neg (by simp)]
   obtain ⟨n1, n2, n3, n4, n5, n6, n7, n8, n9, n10⟩ := n
   simp only [] at hn
   subst hn
   exact j4m hs _
 | some w =>
   rw [Option.isSome_some, if_pos rfl]
   simp only [q74]
   by_cases h4 : fl 0 ((gt j q1q).kd != 4) 30 = 0
   rotate_left
   · rw [q16 h4, q1i _ _ _ h4, q8p h4]
     exact (q16 h4 _).symm
   rw [h4, q2p]
   simp only []
   by_cases h5 : (gt j q1q).txt ∈ (gt j q1j).its.map JT.txt
   · rw [if_pos h5, show ((gt j q1j).its.map JT.txt).contains (gt j q1q).txt = true by simpa using h5, Bool.not_true, fl_f]
     exact j4m hs _
   · rw [if_neg h5, show ((gt j q1j).its.map JT.txt).contains (gt j q1q).txt = false by simpa using h5, Bool.not_false, fl_t, q8p (by decide)]
     rfl
section
section
variable {P : Program} {N : Nat} {Q : Exit → ASt → Prop}
theorem VC.nilH {c : Code} {t : Nat → AV} {h : Nat → Option Blkd} {n : Nat} (j o : Nat) (T : TypeId) (z : Nat) (B : Blkd) (e : List AV) (hB : h j = some B) (hrow : B.row = false) (he : B.elems = [e]) (ho : e[o]? = some (.c (.v (.slice none 0 0)))) (hn : Nat.ble (n + 1) L0 = true)
  (hv : VC P N c ⟨t, upd (upd h n (some ⟨true, T, z, []⟩)) j (some ⟨false, B.T, B.z, [e.set o (.row n 0)]⟩), n + 8⟩ Q) : VC P N c ⟨t, h, n⟩ Q := ⟨fun C a W r => by
 obtain ⟨ro, φ, r⟩ := r
 have hn := Nat.le_of_ble_eq_true hn
 have hnu : ¬ Used n n := fun hu => by unfold Used at hu; omega
 have hjn : j ≠ n := fun e => hnu (e ▸ (r.scH j B hB).1)
 have r2 : Rel C (fun j => Used n j ∨ j = n) N t (upd h n (some ⟨true, T, z, []⟩)) ro (upd φ n (.slice none 0 0)) a W :=
  r.block (W' := W) (Keeps.refl _ _) (fun b hb => by simp [q0y] at hb) (.inr hnu)
   ⟨fun i e he => by simp at he, fun e he => by simp at he, [], ⟨rfl, fun j x v hx => by simp at hx⟩, by rw [if_pos rfl, q1a]; exact World.ownsRow_nil W 0 T z⟩ (fun e he => by simp at he)
 have r3 := r2.take (used' := Used (n + 8)) fun j hj => by
  unfold Used at hj ⊢
  omega
 have hB3 : upd h n (some ⟨true, T, z, []⟩) j = some B := by rw [q1p _ _ hjn]; exact hB
 obtain ⟨b1, b2, vs, b3, b4⟩ := r3.hp j B hB3
 have helen : e.length = B.z := b1 0 e (by rw [he]; rfl)
 have hol := (List.getElem?_eq_some_iff.1 ho).1
 rw [he, List.flatten_cons, List.flatten_nil, List.append_nil] at b3
 have hg : ∀ k B', Used (n + 8) k → upd (upd h n (some ⟨true, T, z, []⟩)) j (some ⟨false, B.T, B.z, [e.set o (.row n 0)]⟩) k = some B' → ∃ B0, upd h n (some ⟨true, T, z, []⟩) k = some B0 ∧ (B0.len < B'.len ∨ (B0.len = B'.len ∧ B0.z = B'.z ∧ upd (upd φ n (.slice none 0 0)) j (upd φ n (.slice none 0 0) j) k = upd φ n (.slice none 0 0) k)) := by
  intro k B' hk hB'
  by_cases hkj : k = j
  · subst hkj
    rw [q1a] at hB'
    obtain rfl := Option.some.inj hB'
    exact ⟨B, hB3, .inr ⟨by unfold Blkd.len; rw [he]; rfl, rfl, by rw [q1a]⟩⟩
  · rw [q1p _ _ hkj] at hB'
    exact ⟨B', hB', .inr ⟨rfl, rfl, q1p _ _ hkj⟩⟩
 have hnew : ∀ (i : Nat) (x : AV), (e.set o (.row n 0))[i]? = some x → (i = o ∧ x = .row n 0) ∨ (i ≠ o ∧ e[i]? = some x) := by
  intro i x hx
  by_cases hio : i = o
  · subst hio
    rw [List.getElem?_set_self hol] at hx
    exact .inl ⟨rfl, (Option.some.inj hx).symm⟩
  · rw [List.getElem?_set_ne (fun e => hio e.symm)] at hx
    exact .inr ⟨hio, hx⟩
 have hrow0 : ∀ v : Value, v = .slice none 0 0 → Rep W ro (upd (upd φ n (.slice none 0 0)) j (upd φ n (.slice none 0 0) j)) (upd (upd h n (some ⟨true, T, z, []⟩)) j (some ⟨false, B.T, B.z, [e.set o (.row n 0)]⟩)) (.row n 0) v := by
  rintro v rfl
  refine .row rfl fun B' hB' _ => ?_
  rw [q1p _ _ (fun e => hjn e.symm), q1a]
 have hscn : Sc (fun k => Used (n + 8) k ∨ k = j) (upd (upd h n (some ⟨true, T, z, []⟩)) j (some ⟨false, B.T, B.z, [e.set o (.row n 0)]⟩)) (.row n 0) := by
  refine .row (.inl (by unfold Used; omega)) fun B' hB' => Nat.zero_le _
 have r4 := r3.block (W' := W) (ℓ := j) (B := ⟨false, B.T, B.z, [e.set o (.row n 0)]⟩) (v := upd φ n (.slice none 0 0) j) (Keeps.refl _ _) (fun b hb => .inr ⟨B, hB3, hb⟩)
  (.inl ⟨B, hB3, .inr ⟨by unfold Blkd.len; rw [he]; rfl, rfl, rfl⟩⟩)
  ⟨fun i e' he' => by
    match i, he' with
    | 0, he' => obtain rfl := Option.some.inj he'; simpa using helen,
   fun e' he' x hx => by
    obtain rfl := List.mem_singleton.1 he'
    obtain ⟨i, hi, hxi⟩ := List.getElem_of_mem hx
    rcases hnew i x (by rw [List.getElem?_eq_getElem hi, hxi]) with ⟨_, rfl⟩ | ⟨_, h5⟩
    · rfl
    · exact b2 e (by rw [he]; exact List.mem_singleton.2 rfl) x (List.mem_of_getElem? h5),
   vs, by
    refine ⟨by simpa using b3.1, fun i x v hx hvv => ?_⟩
    simp only [List.flatten_cons, List.flatten_nil, List.append_nil] at hx
    rcases hnew i x hx with ⟨rfl, rfl⟩ | ⟨_, h5⟩
    · exact hrow0 v (q13 (b3.2 i _ v ho hvv))
    · exact (b3.2 i x v h5 hvv).map ((r3.scH j B hB3).2 e (by rw [he]; exact List.mem_singleton.2 rfl) x (List.mem_of_getElem? h5)) (fun _ _ => rfl) (fun _ h => h) hg, by
    rw [if_neg (by simp)]
    rw [if_neg (by simp [hrow])] at b4
    rw [q1a]
    exact b4⟩
  (fun e' he' x hx => by
   obtain rfl := List.mem_singleton.1 he'
   obtain ⟨i, hi, hxi⟩ := List.getElem_of_mem hx
   rcases hnew i x (by rw [List.getElem?_eq_getElem hi, hxi]) with ⟨_, rfl⟩ | ⟨_, h5⟩
   · exact hscn
   · refine ((r3.scH j B hB3).2 e (by rw [he]; exact List.mem_singleton.2 rfl) x (List.mem_of_getElem? h5)).map (fun k hk => .inl hk) fun k B' hk hB' => ?_
     obtain ⟨B0, h6, h7⟩ := hg k B' hk hB'
     exact ⟨B0, h6, by rcases h7 with h7 | h7 <;> omega⟩)
 have r5 := r4.take (used' := Used (n + 8)) fun k hk => by
  rcases hk with hk | rfl
  · exact hk
  · have := (r.scH k B hB).1
    unfold Used at this ⊢
    simp only [] at this
    omega
 exact hv.out C a W ⟨ro, _, r5⟩⟩
end
end
end
end Go.Proofs.YthkofkaocipomaaGreatDoor
