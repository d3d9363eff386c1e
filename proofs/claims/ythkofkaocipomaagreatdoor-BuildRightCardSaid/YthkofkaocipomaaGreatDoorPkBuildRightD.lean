/- Texts that lead to the law BuildRight, joined. -/
import Derived.Test.YthkofkaocipomaaGreatDoorPkBuildRightC
import Derived.Test.YthkofkaocipomaaGreatDoorPkBuildRightB
import Derived.Test.YthkofkaocipomaaGreatDoorPkBuildRightA
import Derived.Test.YthkofkaocipomaaGreatDoorPkBuildRightXAbB
namespace Go.Proofs.YthkofkaocipomaaGreatDoor
set_option maxRecDepth 100000
set_option maxHeartbeats 6400000
open Go.RowKit
set_option linter.unusedVariables false
set_option linter.unusedSimpArgs false
section
attribute [local go_sem] opx opE ev okx q46 bnd okO AV.get AV.okb cAV q7s q82 q81 j12 q6k q8u q8t st q7w q5v q7y q7z q7x binV binI binS q4g q5c q47 q5d unV q5o q31 q3e q0y q10 Blkd.len setE grown q1j q4m q3g q2z pv q4t q3o q4d AV.cellish AV.pureL AV.pureB q8s q8f AV.ren AV.renL q84 Blkd.ren rho wrM renN q2s rhoE q4b q4h q7o q7r j1c j1f j1j j1o j1r q63 q9b q9g q9h q9m q9q q9s q9t q9u q9z q94 q99 q7p q7q j0f q62 j0k j0l j0n j0o j09 j1a j1b j1d j1e j1g j1h j1i j1k j1l j1m j1n j1p j1q j1s j1t j1u j1v j1w q9c q9d q9e q9f q9i q9j q9k q9l q9n q9o q9p q9r q9v q9w q9x q9y q90 q91 q92 q93 q95 q96 q97 q98 j0a j0b j0c j0d j0e j0g j0h j0i j0j j0m j0p j0q j0r j0s j0t j0u j0v j0w j0x j0y j0z j00 j01 j02 j03 j04 j05 j06 j07 j08 Option.map_some Option.map_none Option.getD_some Option.getD_none Option.bind_some Option.bind_none List.getElem?_cons_zero List.getElem?_cons_succ List.getElem?_nil List.getElem?_toArray List.length_cons List.length_nil List.length_map List.forall_mem_map List.map_cons List.map_nil List.drop_zero List.drop_succ_cons List.drop_nil List.take_zero List.take_succ_cons List.take_nil List.mem_cons List.not_mem_nil or_false forall_eq_or_imp forall_eq List.set_cons_zero List.set_cons_succ List.cons_append List.nil_append List.append_nil List.foldl_cons List.foldl_nil List.replicate_succ List.replicate_zero List.all_cons List.all_nil if_true if_false Bool.false_eq_true ne_eq not_false_eq_true not_true_eq_false true_and and_true and_self true_implies imp_self implies_true forall_const beq_self_eq_true Bool.and_true Bool.true_and Bool.and_false Bool.false_and Bool.or_true Bool.true_or Bool.or_false Bool.false_or Bool.not_true Bool.not_false Bool.not_eq_eq_eq_not q50 Value.oneCell' Int.toNat_natCast beq_true beq_false Bool.not_eq_true false_implies false_or true_or or_true Nat.zero_add Nat.add_zero decide_true decide_false Int.cast_ofNat_Int Int.toNat_zero Int.toNat_one eq_self

theorem j7n (es : List EN) (l : List JT) (a : List UInt8) (b1 b2 : Bool) (hd1 : decide ((l.length : Int) < 1) = b1) (hd2 : decide ((l.length : Int) > 10) = b2) (e2 e3 : Int) (h3 : e3 ≠ 0)
  (hF1 : ToldM Tryz.prog 36 [.ref 1000000 1 0 0, .c (.v (.bool (b1 || b2))), .c (.v (.int .i64 34))] [xW es.length 0, xN es] [some (xW es.length e2), some (xN es)] (.tup []))
  (hFr : ToldM Tryz.prog 117 [.ref 1000000 1 0 0, .agg [.c (.v (.int .i64 13)), .c (.v (.string ⟨#[]⟩)), .c (.v (.slice none 0 0)), .c (.v (.slice none 0 0)), .c (.v (.slice none 0 0)), .c (.v (.bool false)), .c (.v (.string ⟨#[]⟩)), .c (.v (.int .i64 0)), .c (.v (.int .i64 0)), .c (.v (.slice none 0 0))]] [xW es.length e2, xN es] [some (xW es.length e3), some (xN es)] (.c (.v (.int .i64 0)))) :
  q1c 71 es 0 [.c (.sl 5 (l.map JT.cells)), strV a] ([], 0, e3) := by
 have hN := fun j => j7h es j a e3 h3
 unfold q1c strV at *
 simp only [List.map_nil, List.append_nil] at hN ⊢
 have hq : (e3 != 0) = true := by simpa using h3
 unfold xW xN at *
 cases b1 with
 | true =>
   rw [Bool.true_or] at hF1
   refine VC.toldXF (And.intro @q0a @q0i) ent_71 [] Tryz.func71 rfl Tryz.ntmps71 fun hb hbL => ?_
   clear hb hbL
   refine q0d (And.intro hd1 hd2) ?_
   refine q0n (And.intro @q0a @q0b) [1000000, 1000001] (hF1) ?_
   refine q0d (And.intro @q0a @q0b) ?_
   refine q0n (And.intro @q0a @q0b) [1000000, 1000001] (hFr) ?_
   refine q0d (And.intro @q0a @q0b) ?_
   refine VC.loop (ι := {i : Nat // i = 0}) (fun q => [(0, .ref 1000000 1 0 0), (1, .c (.sl 5 (l.map JT.cells))), (2, .c (.v (.string (str a)))), (6, .c (.v (.int .i64 0))), (7, .c (.v (.int .i64 0))), (24, .c (.sl 5 (l.map JT.cells))), (25, .c (.v (.int .i64 (l.length : Int)))), (26, .c (.v (.int .i64 0)))])
    (fun q => [(1000000, ⟨false, 60, 3, [[.row 1000001 es.length, .c (.v (.int .i64 0)), .c (.v (.int .i64 e3))]]⟩), (1000001, ⟨true, 40, 10, rA EN.cells es⟩)]) 2000 (fun q => 0) ⟨0, rfl⟩ ?_ ?_
   · refine q3l (And.intro @q0a (And.intro @q0i @q0b)) ?_
     exact Nat.le_refl _
   rintro ⟨i, hi⟩
   subst hi
   refine q0c ?_
   refine VC.cond (by rfl) (by trivial) (fun hc => ?_) (fun hc => ?_)
   · have hlt : 0 < l.length := by simp at hc; omega
     obtain ⟨x, hx⟩ : ∃ x, l[0]? = some x := ⟨l[0], List.getElem?_eq_getElem hlt⟩
     replace hN := hN x
     have hxp : (l.map JT.cells)[0]? = some x.cells := by rw [List.getElem?_map, hx]; rfl
     have hll : (0 : Int) < (l.length : Int) := by omega
     rw [JT.av_eq x, q03 x] at hN
     rw [q03 x] at hxp
     generalize x.kd = x1 at *
     generalize x.num = x2 at *
     generalize x.txt = x3 at *
     generalize x.its = x4 at *
     generalize x.keys = x5 at *
     refine q0d (And.intro hxp hll) ?_
     refine q0n (And.intro @q0a @q0b) [1000000, 1000001] (hN) ?_
     refine q06 (And.intro @q0a (And.intro @q0b hq)) ?_
     refine q09 (@q0b) Tryz.results71 ?_
     exact .c _
   · refine q0d (And.intro @q0a @q0b) ?_
     refine q09 (@q0b) Tryz.results71 ?_
     exact .c _
 | false =>
   rw [Bool.false_or] at hF1
   refine VC.toldXF (And.intro @q0a @q0i) ent_71 [] Tryz.func71 rfl Tryz.ntmps71 fun hb hbL => ?_
   clear hb hbL
   refine q0d (And.intro hd1 hd2) ?_
   refine q0n (And.intro @q0a @q0b) [1000000, 1000001] (hF1) ?_
   refine q0d (And.intro @q0a @q0b) ?_
   refine q0n (And.intro @q0a @q0b) [1000000, 1000001] (hFr) ?_
   refine q0d (And.intro @q0a @q0b) ?_
   refine VC.loop (ι := {i : Nat // i = 0}) (fun q => [(0, .ref 1000000 1 0 0), (1, .c (.sl 5 (l.map JT.cells))), (2, .c (.v (.string (str a)))), (6, .c (.v (.int .i64 0))), (7, .c (.v (.int .i64 0))), (24, .c (.sl 5 (l.map JT.cells))), (25, .c (.v (.int .i64 (l.length : Int)))), (26, .c (.v (.int .i64 0)))])
    (fun q => [(1000000, ⟨false, 60, 3, [[.row 1000001 es.length, .c (.v (.int .i64 0)), .c (.v (.int .i64 e3))]]⟩), (1000001, ⟨true, 40, 10, rA EN.cells es⟩)]) 2000 (fun q => 0) ⟨0, rfl⟩ ?_ ?_
   · refine q3l (And.intro @q0a (And.intro @q0i @q0b)) ?_
     exact Nat.le_refl _
   rintro ⟨i, hi⟩
   subst hi
   refine q0c ?_
   refine VC.cond (by rfl) (by trivial) (fun hc => ?_) (fun hc => ?_)
   · have hlt : 0 < l.length := by simp at hc; omega
     obtain ⟨x, hx⟩ : ∃ x, l[0]? = some x := ⟨l[0], List.getElem?_eq_getElem hlt⟩
     replace hN := hN x
     have hxp : (l.map JT.cells)[0]? = some x.cells := by rw [List.getElem?_map, hx]; rfl
     have hll : (0 : Int) < (l.length : Int) := by omega
     rw [JT.av_eq x, q03 x] at hN
     rw [q03 x] at hxp
     generalize x.kd = x1 at *
     generalize x.num = x2 at *
     generalize x.txt = x3 at *
     generalize x.its = x4 at *
     generalize x.keys = x5 at *
     refine q0d (And.intro hxp hll) ?_
     refine q0n (And.intro @q0a @q0b) [1000000, 1000001] (hN) ?_
     refine q06 (And.intro @q0a (And.intro @q0b hq)) ?_
     refine q09 (@q0b) Tryz.results71 ?_
     exact .c _
   · refine q0d (And.intro @q0a @q0b) ?_
     refine q09 (@q0b) Tryz.results71 ?_
     exact .c _
theorem bunion_no (es : List EN) (hl : es.length ≤ 200) (l : List JT) (a : List UInt8) (fN : JT → List HN → BV) (h : l.length < 1 ∨ 10 < l.length ∨ 200 ≤ es.length) :
  q1c 71 es 0 [.c (.sl 5 (l.map JT.cells)), strV a] (q4o fN (hsE es) l) := by
 have hsl : (hsE es).length = es.length := by rw [hsE, List.length_map]
 obtain ⟨b1, hb1⟩ : ∃ b1, b1 = decide ((l.length : Int) < 1) := ⟨_, rfl⟩
 obtain ⟨b2, hb2⟩ : ∃ b2, b2 = decide ((l.length : Int) > 10) := ⟨_, rfl⟩
 have hF1 := q15 es es.length rfl 0 34 (b1 || b2)
 by_cases hbad : l.length < 1 ∨ 10 < l.length
 · have hv : q4o fN (hsE es) l = ([], 0, 34) := by unfold q4o; rw [if_pos hbad]
   have hb : (b1 || b2) = true := by
    rw [hb1, hb2]
    rcases hbad with h | h
    · simp; omega
    · simp; omega
   rw [hv]
   refine j7n es l a b1 b2 hb1.symm hb2.symm 34 34 (by decide) ?_ (j8o hl (by decide) 13)
   rw [hb] at hF1 ⊢
   exact hF1
 · have hle : es.length = 200 := by omega
   have hv : q4o fN (hsE es) l = ([], 0, 3) := by unfold q4o; rw [if_neg hbad, if_pos (by omega)]
   have hb : (b1 || b2) = false := by
    rw [hb1, hb2]
    simp
    omega
   rw [hv]
   have hFr := j2v es hl 0 13
   have hv2 : q16 (hsE es) 0 (q1d 13) = ([], 0, 3) := by
    unfold q16
    rw [show (hsE es).length = 200 by rw [hsl]; exact hle]
    rfl
   rw [hv2] at hFr
   simp only [List.map_nil, List.append_nil] at hFr
   refine j7n es l a b1 b2 hb1.symm hb2.symm 0 3 (by decide) ?_ hFr
   rw [hb] at hF1 ⊢
   exact hF1
theorem z26 (es : List EN) (hl : es.length ≤ 200) (l : List JT) (a : List UInt8) (fN : JT → List HN → BV) (hK : ∀ x ∈ l, KidOk a x (fN x)) :
  q1c 71 es 0 [.c (.sl 5 (l.map JT.cells)), strV a] (q4o fN (hsE es) l) := by
 by_cases h : l.length < 1 ∨ 10 < l.length ∨ 200 ≤ es.length
 · exact bunion_no es hl l a fN h
 · exact z27 es (by omega) l (by omega) (by omega) a fN hK

def symE (e : Int) (done : List (List UInt8)) : List (List UInt8) → Int
 | [] => e
 | s :: l => symE (fl (fl e (!q1b s) 31) (done.contains s) 36) (done ++ [s]) l
def q5m (e : Int) (x : JT) : Int := symE (fl (q4e e x) (decide ((x.its.length : Int) = 0)) 30) [] (x.its.map JT.txt)
def q5w (hs : List HN) (e : Int) (j : JT) (n : NT) : List NT × Int × Int :=
 if (jget j q17).isSome = true then
  q16 hs (fl (fl (q5m e (gt j q1y)) ((gt j q17).kd != 4) 30) (!((gt j q1y).its.map JT.txt).contains (gt j q17).txt) 35) { n with symbols := (gt j q1y).its.map JT.txt, has := true, dflt := (gt j q17).txt }
 else q16 hs (q5m e (gt j q1y)) { n with symbols := (gt j q1y).its.map JT.txt, has := false }
theorem z2g (es : List EN) (hl : es.length ≤ 200) (e : Int) (j : JT) (n : NT) (hL : (gt j q1y).its.length ≤ 1000000) (hT : ∀ x ∈ (gt j q1y).its, x.txt.length ≤ 100000000) :
  q1c 125 es e [j.av, (EN.of n).av] (q5w (hsE es) e j n) := by
 unfold q1c
 have hG := q4j j q1y
 have hG2 := q4j j q17
 have hX := j4j es es.length rfl e (gt j q1y) hL
 have hF1 := q15 es es.length rfl (q4e e (gt j q1y)) 30 (decide (((gt j q1y).its.length : Int) = 0))
 have hTx := fun e => q70 es es.length rfl e j q17
 rw [show (jget j q1y).getD zJ = gt j q1y from rfl] at hG
 rw [show (jget j q17).getD zJ = gt j q17 from rfl] at hG2
 unfold q5w q5m
 generalize (jget j q1y).isSome = b at *
 generalize (jget j q17).isSome = bd at *
 generalize gt j q1y = x at *
 generalize gt j q17 = w at *
 generalize q4e e x = e1 at *
 obtain ⟨e2, he2⟩ : ∃ e2, e2 = fl e1 (decide ((x.its.length : Int) = 0)) 30 := ⟨_, rfl⟩
 rw [← he2] at hF1 ⊢
 obtain ⟨ss, hss⟩ : ∃ ss, ss = x.its.map JT.txt := ⟨_, rfl⟩
 have hsl : ss.length = x.its.length := by rw [hss, List.length_map]
 have hsb : ∀ s ∈ ss, s.length ≤ 100000000 := by
  intro s hs
  rw [hss] at hs
  obtain ⟨y, hy, rfl⟩ := List.mem_map.1 hs
  exact hT y hy
 rw [← hss] at hX ⊢
 rw [← hsl] at hF1 hL
 obtain ⟨E, hE⟩ : ∃ E, E = symE e2 [] ss := ⟨_, rfl⟩
 rw [← hE]
 have hFa := fun e n => j2w es hl e n
 rw [EN.av_eq, q8v]
 rw [JT.av_eq x, q03 x] at hG hX
 rw [JT.av_eq, q03] at hG hG2 ⊢
 rw [JT.av_eq w, q03 w] at hG2
 rw [JT.av_eq, q03] at hTx
 generalize j.kd = j1 at *
 generalize j.num = j2 at *
 generalize j.txt = j3 at *
 generalize j.its = j4 at *
 generalize j.keys = j5 at *
 generalize x.kd = x1 at *
 generalize x.num = x2 at *
 generalize x.txt = x3 at *
 clear hsl hT hss he2
 generalize x.its = x4 at *
 generalize x.keys = x5 at *
 rw [q1y, q33 [115, 121, 109, 98, 111, 108, 115]] at hG
 rw [q17, q33 [100, 101, 102, 97, 117, 108, 116]] at hG2 hTx
 obtain ⟨n1, n2, n3, n4, n5, n6, n7, n8, n9, n10⟩ := n
 simp only []
 obtain ⟨V, hV⟩ : ∃ V, V = if bd = true then q16 (hsE es) (fl (fl E (w.kd != 4) 30) (!ss.contains w.txt) 35) ⟨n1, n2, n3, n4, ss, true, w.txt, n8, n9, n10⟩ else q16 (hsE es) E ⟨n1, n2, n3, n4, ss, false, n7, n8, n9, n10⟩ := ⟨_, rfl⟩
 rw [← hV]
 obtain ⟨V1, V2, V3⟩ := V
 simp only []
 unfold xW xN at hX hF1 ⊢
 refine VC.toldXF (And.intro @q0a @q0i) ent_125 [] Tryz.func125 rfl Tryz.ntmps125 fun hb hbL => ?_
 clear hb hbL
 refine q0c ?_
 refine q0h (hG) ?_
 refine q0c ?_
 refine q0n (And.intro @q0a @q0b) [1000000, 1000001] (hX) ?_
 refine q0d (And.intro @q0a @q0b) ?_
 refine q0n (And.intro @q0a @q0b) [1000000, 1000001] (hF1) ?_
 refine q0d (And.intro @q0a @q0b) ?_
 refine VC.loop (ι := {q : Nat × Int // q.1 ≤ ss.length ∧ E = symE q.2 (ss.take q.1) (ss.drop q.1)}) (fun q => [(0, .ref 1000000 1 0 0), (4, .ref 0 1 0 0), (5, .ref 8 1 0 0), (6, .c (.v (.int .i64 0))), (27, .c (.sl 1 (ss.map sPV))), (28, .c (.v (.int .i64 (ss.length : Int)))), (29, .c (.v (.int .i64 (q.1.1 : Int))))])
  (fun q => [(1000000, ⟨false, 60, 3, [[.row 1000001 es.length, .c (.v (.int .i64 0)), .c (.v (.int .i64 q.1.2))]]⟩), (1000001, ⟨true, 40, 10, rA EN.cells es⟩), (0, ⟨false, 25, 5, [[.c (.v (.int .i64 j1)), .c (.v (.int .i64 j2)), .c (.v (.string (str j3))), .c (.sl 5 (j4.map JT.cells)), .c (.sl 1 (j5.map sPV))]]⟩),
   (8, ⟨false, 40, 10, [[.c (.v (.int .i64 n1)), .c (.v (.string (str n2))), .c (.sl 1 (n3.map sPV)), .c (.sl 9 (n4.map FT.cells)), .c (.sl 1 (ss.map sPV)), .c (.v (.bool n6)), .c (.v (.string (str n7))), .c (.v (.int .i64 n8)), .c (.v (.int .i64 n9)), .c (.sl 1 (n10.map iPV))]]⟩)]) 2000 (fun q => ss.length - q.1.1) ⟨(0, e2), Nat.zero_le _, hE⟩ ?_ ?_
 · refine q3l (And.intro @q0a (And.intro @q0i @q0b)) ?_
   exact Nat.le_refl _
 rintro ⟨⟨i, ei⟩, hi, hEi⟩
 simp only [] at hi hEi ⊢
 clear hF1 hX hE
 refine q0c ?_
 refine VC.cond (by rfl) (by trivial) (fun hc => ?_) (fun hc => ?_)
 rotate_left
 · have hie : i = ss.length := by simp at hc; omega
   rw [hie, List.take_length, List.drop_length] at hEi
   unfold symE at hEi
   subst hEi
   cases bd with
   | false =>
     rw [if_neg (by simp)] at hV
     have hFr := hFa E ⟨n1, n2, n3, n4, ss, false, n7, n8, n9, n10⟩
     rw [← hV] at hFr
     rw [EN.av_eq, q8v] at hFr
     simp only [] at hFr
     clear hFa hTx
     generalize es ++ V1.map EN.of = es' at *
     unfold xW xN at hFr
     refine q0d (And.intro @q0a @q0b) ?_
     refine q0h (hG2) ?_
     refine q06 (And.intro @q0a @q0b) ?_
     refine q0n (And.intro @q0a @q0b) [1000000, 1000001] (hFr) ?_
     refine q0d (And.intro @q0a @q0b) ?_
     refine q09 (@q0b) Tryz.results125 ?_
     exact .c _
   | true =>
     rw [if_pos rfl] at hV
     have hFr := hFa (fl (fl E (w.kd != 4) 30) (!ss.contains w.txt) 35) ⟨n1, n2, n3, n4, ss, true, w.txt, n8, n9, n10⟩
     rw [← hV] at hFr
     rw [EN.av_eq, q8v] at hFr
     simp only [] at hFr
     have hT1 := hTx E
     have hC := j24 ss w.txt
     have hF3 := q15 es es.length rfl (fl E (w.kd != 4) 30) 35 (!ss.contains w.txt)
     clear hFa hTx hV
     generalize es ++ V1.map EN.of = es' at *
     generalize fl (fl E (w.kd != 4) 30) (!ss.contains w.txt) 35 = E2 at *
     generalize fl E (w.kd != 4) 30 = E1 at *
     generalize ss.contains w.txt = cw at *
     generalize w.kd = w1 at *
     generalize w.num = w2 at *
     generalize w.txt = w3 at *
     generalize w.its = w4 at *
     generalize w.keys = w5 at *
     unfold xW xN at hFr hT1 hF3
     refine q0d (And.intro @q0a @q0b) ?_
     refine q0h (hG2) ?_
     refine q06 (And.intro @q0a @q0b) ?_
     refine q0n (And.intro @q0a @q0b) [1000000, 1000001] (hT1) ?_
     refine q0d (And.intro @q0a @q0b) ?_
     refine q0h (hC) ?_
     refine q0d (And.intro @q0a @q0b) ?_
     refine q0n (And.intro @q0a @q0b) [1000000, 1000001] (hF3) ?_
     refine q0d (And.intro @q0a @q0b) ?_
     refine q0n (And.intro @q0a @q0b) [1000000, 1000001] (hFr) ?_
     refine q0d (And.intro @q0a @q0b) ?_
     refine q09 (@q0b) Tryz.results125 ?_
     exact .c _
 · have hlt : i < ss.length := by simp at hc; omega
   obtain ⟨y, hy⟩ : ∃ y, ss[i]? = some y := ⟨ss[i], List.getElem?_eq_getElem hlt⟩
   have hyb := hsb y (List.mem_of_getElem? hy)
   have hS := q7l y (by omega)
   have hC := j24 (ss.take i) y
   rw [List.map_take] at hC
   have hw : IntKind.i64.wrap ((i : Int) + 1) = (i : Int) + 1 := q1g (by omega) (by omega)
   have hyp : (ss.map sPV)[i]? = some [.v (.string (str y))] := by rw [List.getElem?_map, hy]; rfl
   have hdr : ss.drop i = y :: ss.drop (i + 1) := by
    obtain ⟨h5, h6⟩ := List.getElem?_eq_some_iff.1 hy
    rw [List.drop_eq_getElem_cons h5, h6]
   have htk : ss.take i ++ [y] = ss.take (i + 1) := by rw [List.take_add_one, hy]; rfl
   rw [hdr] at hEi
   unfold symE at hEi
   rw [htk] at hEi
   have hFb := q15 es es.length rfl ei 31 (!q1b y)
   have hFc := q15 es es.length rfl (fl ei (!q1b y) 31) 36 ((ss.take i).contains y)
   obtain ⟨ej, hej⟩ : ∃ ej, ej = fl (fl ei (!q1b y) 31) ((ss.take i).contains y) 36 := ⟨_, rfl⟩
   rw [← hej] at hEi hFc
   generalize fl ei (!q1b y) 31 = ek at *
   generalize q1b y = sy at *
   generalize (ss.take i).contains y = cy at *
   have hil : (i : Int) ≤ (ss.length : Int) := by omega
   have hi0 : (0 : Int) ≤ (i : Int) := by omega
   have hilt : (i : Int) < (ss.length : Int) := by omega
   unfold xW xN at hFb hFc
   refine q0d (And.intro hyp hilt) ?_
   refine q0h (hS) ?_
   refine q0d (And.intro @q0a @q0b) ?_
   refine q0n (And.intro @q0a @q0b) [1000000, 1000001] (hFb) ?_
   refine q0d (And.intro @q0a (And.intro @q0b (And.intro hil hi0))) ?_
   refine q0h (hC) ?_
   refine q0d (And.intro @q0a @q0b) ?_
   refine q0n (And.intro @q0a @q0b) [1000000, 1000001] (hFc) ?_
   refine q0d (And.intro @q0a (And.intro @q0b hw)) ?_
   refine .next ⟨(i + 1, ej), by simp only []; omega, hEi⟩ ?_ (by simp only []; omega)
   refine q3l (And.intro @q0a (And.intro @q0i @q0b)) ?_
   exact ⟨cI (by omega), Nat.le_refl _⟩

theorem z2s (es : List EN) (j : JT) (hk : j.kd = 5) (a : List UInt8) (V : List NT × Int × Int) (hN : q1c 71 es 0 [.c (.sl 5 (j.its.map JT.cells)), strV a] V) : q1c 35 es 0 [j.av, strV a] V := by
 unfold q1c strV at *
 obtain ⟨V1, V2, V3⟩ := V
 simp only [] at hN ⊢
 generalize es ++ V1.map EN.of = es' at *
 rw [JT.av_eq, q03, hk] at *
 generalize j.num = j2 at *
 generalize j.txt = j3 at *
 generalize j.its = j4 at *
 generalize j.keys = j5 at *
 unfold xW xN at *
 refine VC.toldXF (And.intro @q0a @q0i) j16 [] Tryz.func35 rfl Tryz.ntmps35 fun hb hbL => ?_
 clear hb hbL
 refine q06 (And.intro @q0a @q0b) ?_
 refine q0n (And.intro @q0a @q0b) [1000000, 1000001] (hN) ?_
 refine q0d (And.intro @q0a @q0b) ?_
 refine q09 (@q0b) Tryz.results35 ?_
 exact .c _
theorem z2r (es : List EN) (j : JT) (h4 : j.kd ≠ 4) (h5 : j.kd ≠ 5) (h6 : j.kd ≠ 6) (a : List UInt8) : q1c 35 es 0 [j.av, strV a] ([], 0, 30) := by
 have hF := q15 es es.length rfl 0 30 true
 rw [show fl 0 true 30 = 30 from rfl] at hF
 unfold q1c strV at *
 simp only [List.map_nil, List.append_nil]
 have q4 : (j.kd == 4) = false := by simpa using h4
 have q5 : (j.kd == 5) = false := by simpa using h5
 have q6 : (j.kd == 6) = false := by simpa using h6
 rw [JT.av_eq, q03] at *
 clear h4 h5 h6
 generalize j.kd = j1 at *
 generalize j.num = j2 at *
 generalize j.txt = j3 at *
 generalize j.its = j4 at *
 generalize j.keys = j5 at *
 unfold xW xN at *
 refine VC.toldXF (And.intro @q0a @q0i) j16 [] Tryz.func35 rfl Tryz.ntmps35 fun hb hbL => ?_
 clear hb hbL
 refine q06 (And.intro @q0a (And.intro @q0b (And.intro q4 (And.intro q5 q6)))) ?_
 refine q0n (And.intro @q0a @q0b) [1000000, 1000001] (hF) ?_
 refine q0d (And.intro @q0a @q0b) ?_
 refine q09 (@q0b) Tryz.results35 ?_
 exact .c _

def q6u (hs : List HN) (k : Int) (V : List NT × Int × Int) : List NT × Int × Int :=
 if 200 ≤ hs.length then ([], 0, 3) else ({ q1d k with items := V.2.1 } :: V.1, (hs.length : Int), V.2.2)
theorem bmany_big (es : List EN) (hl : es.length = 200) (j : JT) (k : Int) (key a : List UInt8) (x : JT) (hx : jget j key = some x) : ToldM Tryz.prog 122 [.ref 1000000 1 0 0, j.av, .c (.v (.int .i64 k)), .c (.v (.string (str key))), .c (.v (.string (str a)))] [xW es.length 0, xN es]
  [some (xW es.length 3), some (xN es)] (.c (.v (.int .i64 0))) := by
 have hG := q4j j key
 rw [hx] at hG
 have hF1 := q15 es es.length rfl 0 30 false
 rw [show fl 0 false 30 = 0 from rfl] at hF1
 have hFr := j2v es (by omega) 0 k
 have hv : q16 (hsE es) 0 (q1d k) = ([], 0, 3) := by
  unfold q16
  rw [show (hsE es).length = 200 by rw [hsE, List.length_map]; exact hl]
  rfl
 rw [hv] at hFr
 simp only [List.map_nil, List.append_nil] at hFr
 simp only [Option.getD_some, Option.isSome_some] at hG
 rw [JT.av_eq x, q03 x] at hG
 rw [JT.av_eq, q03] at hG ⊢
 generalize j.kd = j1 at *
 generalize j.num = j2 at *
 generalize j.txt = j3 at *
 generalize j.its = j4 at *
 generalize j.keys = j5 at *
 generalize x.kd = x1 at *
 generalize x.num = x2 at *
 generalize x.txt = x3 at *
 generalize x.its = x4 at *
 generalize x.keys = x5 at *
 unfold xW xN at hF1 hFr ⊢
 refine VC.toldXF (And.intro @q0a @q0i) j4u [] Tryz.func122 rfl Tryz.ntmps122 fun hb hbL => ?_
 clear hb hbL
 refine q0c ?_
 refine q0h (hG) ?_
 refine q0c ?_
 refine q0n (And.intro @q0a @q0b) [1000000, 1000001] (hF1) ?_
 refine q0d (And.intro @q0a @q0b) ?_
 refine q0n (And.intro @q0a @q0b) [1000000, 1000001] (hFr) ?_
 refine q06 (And.intro @q0a @q0b) ?_
 refine q09 (@q0b) Tryz.results122 ?_
 exact .c _
theorem z2q (es : List EN) (hl : es.length < 200) (j : JT) (k : Int) (key a : List UInt8) (x : JT) (hx : jget j key = some x) (V : List NT × Int × Int) (hN : q1c 35 (es ++ [EN.of (q1d k)]) 0 [x.av, strV a] V) :
  q1c 122 es 0 [j.av, intV k, strV key, strV a] (q6u (hsE es) k V) := by
 have hG := q4j j key
 rw [hx] at hG
 have hF1 := q15 es es.length rfl 0 30 false
 rw [show fl 0 false 30 = 0 from rfl] at hF1
 have hFr := j2v es (by omega) 0 k
 have hsl : (hsE es).length = es.length := by rw [hsE, List.length_map]
 have hv : q16 (hsE es) 0 (q1d k) = ([q1d k], (es.length : Int), 0) := by
  unfold q16
  rw [hsl, show decide (200 ≤ es.length) = false by simp; omega]
  rfl
 rw [hv] at hFr
 have hm : q6u (hsE es) k V = ({ q1d k with items := V.2.1 } :: V.1, (es.length : Int), V.2.2) := by
  unfold q6u
  rw [if_neg (by rw [hsl]; omega), hsl]
 rw [hm]
 unfold q1c strV intV at *
 obtain ⟨V1, V2, V3⟩ := V
 simp only [List.map_cons, List.map_nil] at hN hFr ⊢
 simp only [Option.getD_some, Option.isSome_some] at hG
 obtain ⟨E, hE⟩ : ∃ E, E = (es ++ [EN.of (q1d k)]) ++ V1.map EN.of := ⟨_, rfl⟩
 obtain ⟨E', hE'⟩ : ∃ E', E' = es ++ EN.of { q1d k with items := V2 } :: V1.map EN.of := ⟨_, rfl⟩
 have hlen : E'.length = E.length := by rw [hE, hE']; simp
 have hat : (rA EN.cells E)[es.length]? = some ((EN.of (q1d k)).cells.map .c) := q6z (by rw [hE, List.append_assoc, List.getElem?_append_right (Nat.le_refl _), Nat.sub_self]; rfl)
 have hset : (rA EN.cells E).set es.length ((EN.of { q1d k with items := V2 }).cells.map .c) = rA EN.cells E' := by
  rw [q7i, hE, hE', List.append_assoc, List.set_append_right _ _ (Nat.le_refl _), Nat.sub_self]
  try rfl
 rw [← hE] at hN
 rw [← hE', hlen]
 obtain ⟨F, hF⟩ : ∃ F, F = es ++ [EN.of (q1d k)] := ⟨_, rfl⟩
 rw [← hF] at hN hFr
 have hlt' : es.length < E.length := by rw [hE]; simp
 clear hv hm hsl hE hE' hF
 rw [q8v] at hat hset
 simp only [q1d, List.map_cons, List.map_nil] at hat hset
 rw [JT.av_eq x, q03 x] at hG hN
 rw [JT.av_eq, q03] at hG ⊢
 generalize j.kd = j1 at *
 generalize j.num = j2 at *
 generalize j.txt = j3 at *
 generalize j.its = j4 at *
 generalize j.keys = j5 at *
 generalize x.kd = x1 at *
 generalize x.num = x2 at *
 generalize x.txt = x3 at *
 generalize x.its = x4 at *
 generalize x.keys = x5 at *
 unfold xW xN at hF1 hFr hN ⊢
 refine VC.toldXF (And.intro @q0a (And.intro @q0i hlen)) j4u [] Tryz.func122 rfl Tryz.ntmps122 fun hb hbL => ?_
 clear hb hbL
 refine q0c ?_
 refine q0h (hG) ?_
 refine q0c ?_
 refine q0n (And.intro @q0a @q0b) [1000000, 1000001] (hF1) ?_
 refine q0d (And.intro @q0a @q0b) ?_
 refine q0n (And.intro @q0a @q0b) [1000000, 1000001] (hFr) ?_
 refine q06 (And.intro @q0a @q0b) ?_
 refine q0n (And.intro @q0a @q0b) [1000000, 1000001] (hN) ?_
 refine q0d (And.intro @q0a (And.intro @q0b (And.intro hat hset))) ?_
 refine q09 (And.intro @q0b hlen) Tryz.results122 ?_
 exact .c _

abbrev q7t := JT → List UInt8 → List HN → BV
def q6v (f : q7t) (hs : List HN) (j : JT) (k : Int) (key a : List UInt8) : BV := match jget j key with
 | none => ([], 0, 30)
 | some x => q6u hs k (f x a (hs ++ [(k, [])]))
def j2g (f : q7t) (hs : List HN) (j : JT) (a : List UInt8) : BV :=
 if (gt j q0o).kd ≠ 4 then ([], 0, 30)
 else if q0p (gt j q0o).txt = 11 then q6v f hs j 11 q7u a
 else if q0p (gt j q0o).txt = 12 then q6v f hs j 12 q7v a
 else if q0p (gt j q0o).txt = 9 then q5i (fun t => f t (q2f (q36 j 9 a).name)) hs (q35 hs j a) j (q36 j 9 a)
 else if q0p (gt j q0o).txt = 10 then q5w hs (q35 hs j a) j (q36 j 10 a)
 else if q0p (gt j q0o).txt = 14 then q5x hs (q35 hs j a) j (q36 j 14 a)
 else q5r hs (gt j q0o).txt a
def q3r : Nat → q7t
 | 0 => fun _ _ _ => ([], 0, 30)
 | d + 1 => fun j a hs => if j.kd = 4 then q5r hs j.txt a else if j.kd = 5 then q4o (fun x => q3r d x a) hs j.its else if j.kd = 6 then j2g (q3r d) hs j a else ([], 0, 30)
def VOk (hs : List HN) (V : BV) : Prop := hs.length + V.1.length ≤ 200 ∧ (V.2.2 = 0 → 0 ≤ V.2.1 ∧ V.2.1 < ((hs.length + V.1.length : Nat) : Int))
theorem q57 {hs : List HN} (hl : hs.length ≤ 200) {k e : Int} (he : e ≠ 0) : VOk hs ([], k, e) := ⟨by simpa using hl, fun h => absurd h he⟩
theorem fl_zero {e : Int} {b : Bool} {c : Int} (hc : c ≠ 0) (h : fl e b c = 0) : e = 0 ∧ b = false := by
 by_cases he : e = 0
 · subst he
   rw [fl_ok] at h
   cases b with
   | true => exact absurd (by simpa using h) hc
   | false => exact ⟨rfl, rfl⟩
 · rw [q1p _ _ _ he] at h
   exact absurd h he
theorem j6g {hs : List HN} (hl : hs.length ≤ 200) (e : Int) (n : NT) : VOk hs (q16 hs e n) := by
 unfold q16
 by_cases h : fl e (decide (200 ≤ hs.length)) 3 = 0
 · rw [if_neg (by simpa using h)]
   have hlt : hs.length < 200 := by
    apply Classical.byContradiction
    intro hn
    rw [show decide (200 ≤ hs.length) = true by simp; omega] at h
    unfold fl at h
    split at h
    · exact absurd h (by assumption)
    · simp at h
   exact ⟨by simp only [List.length_singleton]; omega, fun _ => by simp only [List.length_singleton]; omega⟩
 · rw [if_pos h]
   exact q57 hl h
theorem z0h {fN : JT → List HN → BV} {hs : List HN} : ∀ (l : List JT), (∀ x ∈ l, ∀ hs', hs'.length ≤ 200 → jget x q0o ≠ none → VOk hs' (fN (gt x q0o) hs')) → ∀ (fs : List FT) (new : List NT) (e : Int), hs.length + new.length ≤ 200 → hs.length + (q28 fN hs l fs new e).2.1.length ≤ 200
 | [], _, fs, new, e, h => h
 | x :: xs, hx, fs, new, e, h => by
   unfold q28
   split
   · exact h
   · refine z0h xs (fun y hy => hx y (by simp [hy])) _ _ _ ?_
     rw [List.length_append]
     unfold q1z
     split
     · simpa using h
     · rename_i he
       have hs' : jget x q0o ≠ none := by
        intro hn
        apply he
        unfold q5j fl
        rw [hn]
        split <;> simp
        assumption
       have := (hx x (by simp) (hs ++ new.map q0k) (by simpa using h) hs').1
       simp only [List.length_append, List.length_map] at this
       omega
theorem z1f {fN : JT → List HN → BV} {hs : List HN} : ∀ (l : List JT), (∀ x ∈ l, ∀ hs', hs'.length ≤ 200 → VOk hs' (fN x hs')) → ∀ (ks : List Int) (new : List NT) (e : Int), hs.length + new.length ≤ 200 → hs.length + (q2x fN hs l ks new e).2.1.length ≤ 200
 | [], _, ks, new, e, h => h
 | x :: xs, hx, ks, new, e, h => by
   have hst : hs.length + (new ++ (q1z (fN x) (hs ++ new.map q0k) e).1).length ≤ 200 := by
    rw [List.length_append]
    unfold q1z
    split
    · simpa using h
    · have := (hx x (by simp) (hs ++ new.map q0k) (by simpa using h)).1
      simp only [List.length_append, List.length_map] at this
      omega
   unfold q2x
   split
   · exact hst
   · exact z1f xs (fun y hy => hx y (by simp [hy])) _ _ _ hst
theorem z1s {hs : List HN} (hl : hs.length ≤ 200) (w a : List UInt8) : VOk hs (q5r hs w a) := by
 unfold q5r
 split
 · exact j6g hl _ _
 · refine ⟨by simpa using hl, fun h => ?_⟩
   simp only [List.length_nil, Nat.add_zero] at h ⊢
   have hf : ¬ q1v hs ((q1q a w).getD []) < 0 := by
    intro hn
    have h5 := (fl_zero (by decide) h).2
    simp at h5
    omega
   have hlt : q1v hs ((q1q a w).getD []) < (hs.length : Int) := by
    unfold q1v at hf ⊢
    cases hx : hs.findIdx? (isH ((q1q a w).getD [])) with
    | none => rw [hx] at hf; simp at hf
    | some i =>
      have := (List.findIdx?_eq_some_iff_findIdx_eq.1 hx).1
      simp only []
      omega
   omega
theorem z1r {hs : List HN} (hl : hs.length ≤ 200) (k : Int) {V : BV} (hV : hs.length < 200 → VOk (hs ++ [(k, [])]) V) : VOk hs (q6u hs k V) := by
 unfold q6u
 split
 · exact q57 hl (by decide)
 · have := (hV (by omega)).1
   rw [List.length_append, List.length_singleton] at this
   exact ⟨by simp only [List.length_cons]; omega, fun _ => by simp only [List.length_cons]; omega⟩
theorem vok_union {hs : List HN} (hl : hs.length ≤ 200) {fN : JT → List HN → BV} (l : List JT) (hx : ∀ x ∈ l, ∀ hs', hs'.length ≤ 200 → VOk hs' (fN x hs')) : VOk hs (q4o fN hs l) := by
 unfold q4o
 split
 · exact q57 hl (by decide)
 · split
   · exact q57 hl (by decide)
   · have h := z1f (hs := hs ++ [(13, [])]) l hx [] [] 0 (by simp; omega)
     rw [List.length_append, List.length_singleton] at h
     refine ⟨by simp only [List.length_cons]; omega, fun _ => ?_⟩
     simp only [List.length_cons]
     split <;> omega
theorem z5l {hs : List HN} (hl : hs.length ≤ 200) {fN : JT → List HN → BV} (e : Int) (j : JT) (n : NT) (hx : ∀ x ∈ (gt j q0z).its, ∀ hs', hs'.length ≤ 200 → jget x q0o ≠ none → VOk hs' (fN (gt x q0o) hs')) : VOk hs (q5i fN hs e j n) := by
 unfold q5i
 split
 · rename_i h
   exact q57 hl h
 · rename_i h
   have hlt : hs.length < 200 := by
    have h5 : q4n hs e j = 0 := by simpa using h
    unfold q4n at h5
    have h6 := (fl_zero (by decide) h5).2
    simp at h6
    omega
   have h := z0h (hs := hs ++ [q0k n]) (gt j q0z).its hx [] [] 0 (by simp; omega)
   rw [List.length_append, List.length_singleton] at h
   refine ⟨by simp only [List.length_cons]; omega, fun _ => ?_⟩
   simp only [List.length_cons]
   split <;> omega
theorem j1y : ∀ (d : Nat) (j : JT) (a : List UInt8) (hs : List HN), hs.length ≤ 200 → VOk hs (q3r d j a hs)
 | 0, j, a, hs, hl => q57 hl (by decide)
 | d + 1, j, a, hs, hl => by
   unfold q3r
   split
   · exact z1s hl _ _
   · split
     · exact vok_union hl _ fun x _ hs' h => j1y d x a hs' h
     · split
       · unfold j2g
         split
         · exact q57 hl (by decide)
         · split
           · unfold q6v
             split
             · exact q57 hl (by decide)
             · exact z1r hl _ fun h => j1y d _ a _ (by simp; omega)
           · split
             · unfold q6v
               split
               · exact q57 hl (by decide)
               · exact z1r hl _ fun h => j1y d _ a _ (by simp; omega)
             · split
               · exact z5l hl _ _ _ fun x _ hs' h _ => j1y d _ _ hs' h
               · split
                 · unfold q5w
                   split <;> exact j6g hl _ _
                 · split
                   · exact j6g hl _ _
                   · exact z1s hl _ _
       · exact q57 hl (by decide)

def mk {α : Type} (e : Int) (x : α) : BR α := if e = 0 then .ok x else .error e
theorem q21 {α : Type} (x : α) : mk 0 x = .ok x := rfl
theorem q13 {α : Type} {e : Int} (h : e ≠ 0) (x : α) : mk e x = .error e := if_neg h
theorem j2m (j : JT) (key : List UInt8) : q6i j key = mk (fl 0 ((gt j key).kd != 4) 30) (gt j key).txt := by
 unfold q6i gt
 cases h : jget j key with
 | none => rfl
 | some x =>
   simp only [Option.getD_some]
   by_cases hk : x.kd = 4
   · rw [if_pos hk, hk]; rfl
   · rw [if_neg hk, show (x.kd != 4) = true by simpa using hk]; rfl
theorem tlB_eq : ∀ xs : List JT, tlB xs = mk (fl 0 (xs.any fun y => y.kd != 4) 30) (xs.map JT.txt)
 | [] => rfl
 | x :: xs => by
   rw [tlB, tlB_eq xs, List.any_cons]
   by_cases hk : x.kd = 4
   · rw [if_pos hk, show (x.kd != 4) = false by simpa using hk, Bool.false_or]
     cases (xs.any fun y => y.kd != 4) <;> rfl
   · rw [if_neg hk, show (x.kd != 4) = true by simpa using hk, Bool.true_or]
     rfl
theorem j9d (x : JT) : q53 x = mk (q4e 0 x) (x.its.map JT.txt) := by
 unfold q53 q4e
 rw [tlB_eq]
 by_cases hk : x.kd = 5
 · rw [if_neg (by simpa using hk), show (x.kd != 5) = false by simpa using hk]
   cases (x.its.any fun y => y.kd != 4) with
   | true => rfl
   | false =>
     show (if 40 < (x.its.map JT.txt).length then Except.error 3 else Except.ok (x.its.map JT.txt)) = _
     rw [List.length_map]
     by_cases hl : 40 < x.its.length
     · rw [if_pos hl, show decide (40 < x.its.length) = true by simpa using hl]; rfl
     · rw [if_neg hl, show decide (40 < x.its.length) = false by simpa using hl]; rfl
 · rw [if_pos (by simpa using hk), show (x.kd != 5) = true by simpa using hk]
   rfl
theorem mapB_eq {full : List UInt8 → Option (List UInt8)} {v : List UInt8 → List UInt8} {ok : List UInt8 → Bool} (hv : ∀ s t, full s = some t → v s = t) (hok : ∀ s, ok s = (full s).isSome) : ∀ l, mapB full l = mk (fl 0 (l.any fun s => !ok s) 31) (l.map v)
 | [] => rfl
 | s :: l => by
   rw [mapB, mapB_eq hv hok l, List.any_cons, hok s]
   cases hs : full s with
   | none => rfl
   | some t =>
     simp only [Option.isSome_some, Bool.not_true, Bool.false_or, List.map_cons, hv s t hs]
     cases (l.any fun s => !ok s) <;> rfl
theorem z1c {e : Int} (he : e ≠ 0) (x : JT) : q4e e x = e := by
 unfold q4e
 rw [q1p _ _ _ he, q1p _ _ _ he, q1p _ _ _ he]
theorem q5u {e : Int} (he : e ≠ 0) (j : JT) (ok : List UInt8 → Bool) : q3t e j ok = e := by
 unfold q3t
 split
 · rw [z1c he, q1p _ _ _ he]
 · rfl
theorem j62 {full : List UInt8 → Option (List UInt8)} {v : List UInt8 → List UInt8} {ok : List UInt8 → Bool} (hv : ∀ s t, full s = some t → v s = t) (hok : ∀ s, ok s = (full s).isSome) (j : JT) : q5t full j = mk (q3t 0 j ok) (q40 j v) := by
 unfold q5t q3t q40 gt
 cases h : jget j q1f with
 | none => rfl
 | some x =>
   simp only [Option.isSome_some, if_true, Option.getD_some, j9d]
   by_cases he : q4e 0 x = 0
   · rw [he, q21]
     exact mapB_eq hv hok _
   · rw [q13 he, q1p _ _ _ he, q13 he]

theorem fl_t {c : Int} : fl 0 true c = c := rfl
theorem fl_f {c : Int} : fl 0 false c = 0 := rfl
theorem spaceB_eq (j : JT) (a : List UInt8) : j38 j a = mk (if (jget j q1t).isSome = true then fl 0 ((gt j q1t).kd != 4) 30 else 0) (if (jget j q1t).isSome = true then (gt j q1t).txt else a) := by
 unfold j38
 cases h : jget j q1t with
 | none => rfl
 | some x =>
   simp only [j2m, Option.isSome_some, if_true]
theorem headB_eq (hs : List HN) (j : JT) (k : Int) (a : List UInt8) : q4k hs j k a = mk (q35 hs j a) (q36 j k a) := by
 unfold q4k
 rw [j2m]
 by_cases h1 : fl 0 ((gt j q05).kd != 4) 30 = 0
 rotate_left
 · rw [q13 h1]
   have hE : q35 hs j a = fl 0 ((gt j q05).kd != 4) 30 := by
    unfold q35 q6p q6a
    split
    · rw [q1p _ _ _ h1, q1p _ _ _ h1, q1p _ _ _ h1, q5u h1]
    · rw [q1p _ _ _ h1, q1p _ _ _ h1, q5u h1]
   rw [hE, q13 h1]
 rw [h1, q21, spaceB_eq]
 simp only []
 obtain ⟨e2, he2⟩ : ∃ e2, e2 = (if (jget j q1t).isSome = true then fl 0 ((gt j q1t).kd != 4) 30 else (0 : Int)) := ⟨_, rfl⟩
 have hE1 : q6a j = e2 := by
  unfold q6a
  rw [h1, he2]
 rw [← he2]
 by_cases h2 : e2 = 0
 rotate_left
 · rw [q13 h2]
   have hE : q35 hs j a = e2 := by
    unfold q35 q6p
    rw [hE1, q1p _ _ _ h2, q1p _ _ _ h2, q5u h2]
   rw [hE, q13 h2]
 rw [h2, q21]
 simp only []
 rw [show q1q (if (jget j q1t).isSome = true then (gt j q1t).txt else a) (gt j q05).txt = q2a j a from rfl]
 unfold q35 q6p
 rw [hE1, h2]
 unfold q36
 cases hf : q2a j a with
 | none =>
   simp only [Option.isSome_none, Bool.not_false, Bool.true_or, fl_t]
   rw [q1p _ _ _ (by decide), q5u (by decide)]
   rfl
 | some f =>
   simp only [Option.isSome_some, Bool.not_true, Bool.false_or, Option.getD_some]
   by_cases hk : q0p f ≠ 0
   · rw [if_pos hk, show ((q0p f : Int) != 0) = true by simp; omega, fl_t, q1p _ _ _ (by decide), q5u (by decide)]
     rfl
   · rw [if_neg hk, show ((q0p f : Int) != 0) = false by simp; omega, fl_f]
     by_cases hd : 0 ≤ q1v hs f
     · rw [if_pos hd, show decide (0 ≤ q1v hs f) = true by simpa using hd, fl_t, q5u (by decide)]
       rfl
     · rw [if_neg hd, show decide (0 ≤ q1v hs f) = false by simpa using hd, fl_f]
       rw [j62 (v := fun s => (q1q (q2f f) s).getD []) (ok := fun s => (q1q (q2f f) s).isSome) (fun s t h => by simp only [h]; rfl) (fun s => rfl)]
       by_cases h5 : q3t 0 j (fun s => (q1q (q2f f) s).isSome) = 0
       · rw [h5]; rfl
       · rw [q13 h5, q13 h5]
theorem j3c (hs : List HN) (n : NT) : q3q hs n = mk (q16 hs 0 n).2.2 ((q16 hs 0 n).1, (q16 hs 0 n).2.1) := by
 unfold q3q q16
 by_cases h : 200 ≤ hs.length
 · rw [if_pos h, show decide (200 ≤ hs.length) = true by simpa using h]; rfl
 · rw [if_neg h, show decide (200 ≤ hs.length) = false by simpa using h]; rfl
theorem q7a {hs : List HN} {e : Int} (he : e ≠ 0) (n : NT) : q16 hs e n = ([], 0, e) := by
 unfold q16
 rw [q1p _ _ _ he, if_pos he]
def BRel (V : BV) (B : BR (List NT × Int)) : Prop := B = mk V.2.2 (V.1, V.2.1)
theorem z12 (hs : List HN) (w a : List UInt8) : BRel (q5r hs w a) (q3y hs w a) := by
 unfold BRel q3y q5r
 by_cases hk : 1 ≤ q0p w ∧ q0p w ≤ 8
 · rw [if_pos hk, if_pos hk]
   exact j3c hs _
 · rw [if_neg hk, if_neg hk]
   cases hf : q1q a w with
   | none =>
     simp only [Option.isSome_none, Bool.not_false, fl_t]
     rw [q1p _ _ _ (by decide)]
     rfl
   | some f =>
     simp only [Option.isSome_some, Bool.not_true, fl_f, Option.getD_some]
     by_cases hd : q1v hs f < 0
     · rw [if_pos hd, show decide (q1v hs f < 0) = true by simpa using hd]; rfl
     · rw [if_neg hd, show decide (q1v hs f < 0) = false by simpa using hd, fl_f, q21, show max (q1v hs f) 0 = q1v hs f by omega]
theorem fixed_rel (hs : List HN) (j : JT) (n : NT) : BRel (q5x hs 0 j n) (q45 hs j n) := by
 unfold BRel q45 q5x q8i
 rw [show (jget j q1w).getD q2b = gt j q1w from rfl]
 by_cases hk : (gt j q1w).kd ≠ 3
 · rw [if_pos hk, show ((gt j q1w).kd != 3) = true by simpa using hk, fl_t, q1p _ _ _ (by decide), q7a (by decide)]
   rfl
 · rw [if_neg hk, show ((gt j q1w).kd != 3) = false by simpa using hk, fl_f]
   by_cases hb : (gt j q1w).num < 0 ∨ 1000 < (gt j q1w).num
   · rw [if_pos hb, show (decide ((gt j q1w).num < 0) || decide (1000 < (gt j q1w).num)) = true by simpa using hb, fl_t, q7a (by decide)]
     rfl
   · rw [if_neg hb, show (decide ((gt j q1w).num < 0) || decide (1000 < (gt j q1w).num)) = false by simpa using hb, fl_f]
     exact j3c hs _

structure Fits (full : List NT) (hs : List HN) (new : List NT) : Prop where
 heads : ∀ (i : Nat) (h : HN), hs[i]? = some h → ∃ n, full[i]? = some n ∧ q0k n = h
 nodes : ∀ (i : Nat) (n : NT), new[i]? = some n → full[hs.length + i]? = some n
theorem Fits.kind {full : List NT} {hs : List HN} {new : List NT} (h : Fits full hs new) {k : Nat} (hk : k < hs.length) : q2c full k = q2v hs k := by
 obtain ⟨n, h1, h2⟩ := h.heads k _ (List.getElem?_eq_getElem hk)
 unfold q2c q2v
 rw [h1, List.getElem?_eq_getElem hk, ← h2]
 rfl
theorem Fits.left {full : List NT} {hs : List HN} {a b : List NT} (h : Fits full hs (a ++ b)) : Fits full hs a :=
 ⟨h.heads, fun i n hn => h.nodes i n (by rw [List.getElem?_append_left (List.getElem?_eq_some_iff.1 hn).1]; exact hn)⟩
theorem Fits.right {full : List NT} {hs : List HN} {a b : List NT} (h : Fits full hs (a ++ b)) : Fits full (hs ++ a.map q0k) b := by
 refine ⟨fun i x hx => ?_, fun i n hn => ?_⟩
 · by_cases hi : i < hs.length
   · rw [List.getElem?_append_left hi] at hx
     exact h.heads i x hx
   · rw [List.getElem?_append_right (by omega), List.getElem?_map] at hx
     obtain ⟨n, h1, rfl⟩ := Option.map_eq_some_iff.1 hx
     have := h.nodes (i - hs.length) n (by rw [List.getElem?_append_left (List.getElem?_eq_some_iff.1 h1).1]; exact h1)
     rw [show hs.length + (i - hs.length) = i by omega] at this
     exact ⟨n, this, rfl⟩
 · have := h.nodes (a.length + i) n (by rw [List.getElem?_append_right (by omega), show a.length + i - a.length = i by omega]; exact hn)
   rw [List.length_append, List.length_map, Nat.add_assoc]
   exact this
def OrdN (d : Nat) (hs : List HN) (new : List NT) (k : Int) : Prop :=
 (new = [] ∧ 0 ≤ k ∧ k < (hs.length : Int) ∧ q00 (q2v hs k.toNat) = true) ∨
 (k = (hs.length : Int) ∧ new ≠ [] ∧ hs.length + new.length ≤ 200 ∧ ∀ full, Fits full hs new → q2t full d hs.length = (true, hs.length + new.length))
def q4f (d : Nat) (f : q1e) : Prop := ∀ hs j a new k, hs.length ≤ 200 → f hs j a = .ok (new, k) → OrdN d hs new k
theorem OrdN.len {d : Nat} {hs : List HN} {new : List NT} {k : Int} (hl : hs.length ≤ 200) (h : OrdN d hs new k) : hs.length + new.length ≤ 200 := by
 rcases h with ⟨rfl, _⟩ | ⟨_, _, h, _⟩
 · simpa using hl
 · exact h
theorem OrdN.lt {d : Nat} {hs : List HN} {new : List NT} {k : Int} (h : OrdN d hs new k) : 0 ≤ k ∧ k < ((hs.length + new.length : Nat) : Int) := by
 rcases h with ⟨rfl, h1, h2, _⟩ | ⟨rfl, h1, _⟩
 · simp; omega
 · have := List.length_pos_iff.2 h1
   omega
theorem OrdN.step {d : Nat} {hs : List HN} {new : List NT} {k : Int} (h : OrdN d hs new k) {full : List NT} (hf : Fits full hs new) {ks : List Int} {q : Nat} (hr : q3k full (q2t full d) ks (hs.length + new.length) = (true, q)) :
  q3k full (q2t full d) (k :: ks) hs.length = (true, q) := by
 rw [q3k]
 rcases h with ⟨rfl, h1, h2, h3⟩ | ⟨rfl, _, _, h⟩
 · rw [if_neg (by omega), if_neg (by
    rw [hf.kind (by omega), h3]
    simp
    omega)]
   simpa using hr
 · rw [if_pos rfl, h full hf]
   simpa using hr
theorem z1k {d : Nat} {f : q1e} (hf : q4f d f) (hs : List HN) (a : List UInt8) : ∀ (xs : List JT) (ks : List Int) (new : List NT) (ks' : List Int) (new' : List NT), hs.length + new.length ≤ 200 → q14 f hs a xs ks new = .ok (ks', new') →
  ∃ ks1 m, ks' = ks ++ ks1 ∧ new' = new ++ m ∧ hs.length + new'.length ≤ 200 ∧ ∀ full, Fits full hs new' → q3k full (q2t full d) ks1 (hs.length + new.length) = (true, hs.length + new'.length)
 | [], ks, new, ks', new', hl, h => by
   rw [q14] at h
   injection h with h
   injection h with h1 h2
   subst h1 h2
   exact ⟨[], [], by simp, by simp, hl, fun full _ => rfl⟩
 | x :: xs, ks, new, ks', new', hl, h => by
   rw [q14] at h
   split at h
   · simp at h
   · rename_i m k hk
     split at h
     · have ho := hf _ _ _ _ _ (by simpa using hl) hk
       have hol := ho.len (by simpa using hl)
       simp only [List.length_append, List.length_map] at hol
       obtain ⟨ks1, m1, h1, h2, h3, h4⟩ := z1k hf hs a xs _ _ _ _ (by simp; omega) h
       refine ⟨k :: ks1, m ++ m1, by rw [h1]; simp, by rw [h2]; simp, h3, fun full hfit => ?_⟩
       have h5 := h4 full hfit
       rw [h2] at hfit
       have h6 := ho.step (full := full) hfit.left.right (ks := ks1) (q := hs.length + new'.length) (by
        rw [List.length_append] at h5
        rw [List.length_append, List.length_map, Nat.add_assoc]
        exact h5)
       rw [List.length_append, List.length_map] at h6
       exact h6
     · simp at h
theorem j78 {d : Nat} {f : q1e} (hf : q4f d f) (hs : List HN) (a : List UInt8) : ∀ (xs : List JT) (fs : List FT) (new : List NT) (fs' : List FT) (new' : List NT), hs.length + new.length ≤ 200 → q18 f hs a xs fs new = .ok (fs', new') →
  ∃ fs1 m, fs' = fs ++ fs1 ∧ new' = new ++ m ∧ hs.length + new'.length ≤ 200 ∧ ∀ full, Fits full hs new' → q3k full (q2t full d) (fs1.map (·.type)) (hs.length + new.length) = (true, hs.length + new'.length)
 | [], fs, new, fs', new', hl, h => by
   rw [q18] at h
   injection h with h
   injection h with h1 h2
   subst h1 h2
   exact ⟨[], [], by simp, by simp, hl, fun full _ => rfl⟩
 | x :: xs, fs, new, fs', new', hl, h => by
   rw [q18] at h
   split at h
   · simp at h
   · rename_i g hg
     split at h
     · simp at h
     · rename_i m k hk
       have ho := hf _ _ _ _ _ (by simpa using hl) hk
       have hol := ho.len (by simpa using hl)
       simp only [List.length_append, List.length_map] at hol
       obtain ⟨fs1, m1, h1, h2, h3, h4⟩ := j78 hf hs a xs _ _ _ _ (by simp; omega) h
       refine ⟨{ g with type := k } :: fs1, m ++ m1, by rw [h1]; simp, by rw [h2]; simp, h3, fun full hfit => ?_⟩
       have h5 := h4 full hfit
       rw [h2] at hfit
       have h6 := ho.step (full := full) hfit.left.right (ks := fs1.map (·.type)) (q := hs.length + new'.length) (by
        rw [List.length_append] at h5
        rw [List.length_append, List.length_map, Nat.add_assoc]
        exact h5)
       rw [List.length_append, List.length_map] at h6
       exact h6
theorem j3f {d : Nat} {hs : List HN} {n : NT} (hk : q2g n = []) {new : List NT} {k : Int} (h : q3q hs n = .ok (new, k)) : OrdN (d + 1) hs new k := by
 unfold q3q at h
 split at h
 · simp at h
 · injection h with h
   injection h with h1 h2
   subst h1 h2
   refine .inr ⟨rfl, by simp, by simp; omega, fun full hf => ?_⟩
   have := hf.nodes 0 n rfl
   rw [q2t, show full[hs.length]? = some n from this]
   simp only []
   rw [hk, q3k]
   rfl
theorem findH_ok {hs : List HN} {name : List UInt8} (h : ¬ q1v hs name < 0) : 0 ≤ q1v hs name ∧ q1v hs name < (hs.length : Int) ∧ q00 (q2v hs (q1v hs name).toNat) = true := by
 unfold q1v at h ⊢
 cases hf : hs.findIdx? (isH name) with
 | none => rw [hf] at h; simp at h
 | some i =>
   obtain ⟨h1, h2, _⟩ := List.findIdx?_eq_some_iff_getElem.1 hf
   simp only []
   refine ⟨by omega, by omega, ?_⟩
   rw [Int.toNat_natCast, q2v, List.getElem?_eq_getElem h1]
   unfold isH at h2
   simp only [Bool.and_eq_true] at h2
   exact h2.1
theorem z11 {d : Nat} {hs : List HN} {w a : List UInt8} {new : List NT} {k : Int} (h : q3y hs w a = .ok (new, k)) : OrdN (d + 1) hs new k := by
 unfold q3y at h
 split at h
 · rename_i hk
   refine j3f ?_ h
   unfold q2g q1d
   simp only []
   rw [if_neg (by omega), if_neg (by omega), if_neg (by omega)]
 · split at h
   · simp at h
   · split at h
     · simp at h
     · rename_i hn
       injection h with h
       injection h with h1 h2
       subst h1 h2
       obtain ⟨a1, a2, a3⟩ := findH_ok hn
       exact .inl ⟨rfl, a1, a2, a3⟩
theorem j5g {d : Nat} {hs : List HN} {n : NT} {m : List NT} (hh : hs.length < 200) (hl : hs.length + 1 + m.length ≤ 200) (hw : ∀ full, Fits full (hs ++ [q0k n]) m → q3k full (q2t full d) (q2g n) (hs.length + 1) = (true, hs.length + 1 + m.length)) : OrdN (d + 1) hs (n :: m) (hs.length : Int) := by
 refine .inr ⟨rfl, by simp, by simp; omega, fun full hf => ?_⟩
 have := hf.nodes 0 n rfl
 rw [q2t, show full[hs.length]? = some n from this]
 simp only []
 have hf2 : Fits full hs ([n] ++ m) := hf
 have := hw full hf2.right
 rw [this]
 simp
 omega
theorem union_ord {d : Nat} {f : q1e} (hf : q4f d f) {hs : List HN} {l : List JT} {a : List UInt8} {new : List NT} {k : Int} (h : q3x f hs l a = .ok (new, k)) : OrdN (d + 1) hs new k := by
 unfold q3x at h
 split at h
 · simp at h
 split at h
 · simp at h
 rename_i h200
 split at h
 · simp at h
 · rename_i ks m hu
   injection h with h
   injection h with h1 h2
   subst h1 h2
   obtain ⟨ks1, m1, e1, e2, h3, h4⟩ := z1k hf _ a l [] [] ks m (by simp; omega) hu
   simp only [List.nil_append] at e1 e2
   subst e1 e2
   simp only [List.length_append, List.length_singleton, List.length_nil, Nat.add_zero] at h3 h4
   exact j5g (by omega) h3 fun full hf => by
    unfold q2g q1d
    simp only []
    rw [if_neg (by decide), if_neg (by decide), if_pos trivial]
    exact h4 full hf
theorem j9m {d : Nat} {f : q1e} (hf : q4f d f) {hs : List HN} {j : JT} {kd : Int} (hkd : kd = 11 ∨ kd = 12) {key a : List UInt8} {new : List NT} {k : Int} (h : q3f f hs j kd key a = .ok (new, k)) : OrdN (d + 1) hs new k := by
 unfold q3f at h
 split at h
 · simp at h
 split at h
 · simp at h
 rename_i h200
 split at h
 · simp at h
 · rename_i m i hu
   injection h with h
   injection h with h1 h2
   subst h1 h2
   have ho := hf _ _ _ _ _ (by simp; omega) hu
   have hol := ho.len (by simp; omega)
   simp only [List.length_append, List.length_singleton] at hol
   exact j5g (by omega) hol fun full hfit => by
    unfold q2g q1d
    simp only []
    rw [if_neg (by omega), if_pos hkd]
    have := ho.step (full := full) hfit (ks := []) (q := hs.length + 1 + m.length) (by simp [q3k])
    rw [List.length_append, List.length_singleton] at this
    exact this
theorem z4a {d : Nat} {f : q1e} (hf : q4f d f) {hs : List HN} {j : JT} {n : NT} (hn : n.kind = 9) {new : List NT} {k : Int} (h : q32 f hs j n = .ok (new, k)) : OrdN (d + 1) hs new k := by
 unfold q32 at h
 split at h
 · simp at h
 split at h
 · simp at h
 split at h
 · simp at h
 rename_i h200
 split at h
 · simp at h
 · rename_i fs m hu
   injection h with h
   injection h with h1 h2
   subst h1 h2
   obtain ⟨fs1, m1, e1, e2, h3, h4⟩ := j78 hf _ _ _ [] [] fs m (by simp; omega) hu
   simp only [List.nil_append] at e1 e2
   subst e1 e2
   simp only [List.length_append, List.length_singleton, List.length_nil, Nat.add_zero] at h3 h4
   exact j5g (by omega) h3 fun full hf => by
    unfold q2g
    simp only []
    rw [if_pos hn]
    exact h4 full hf
theorem head_kind {hs : List HN} {j : JT} {k : Int} {a : List UInt8} {n : NT} (h : q4k hs j k a = .ok n) : ∃ f l, n = ⟨k, f, l, [], [], false, [], 0, 0, []⟩ := by
 unfold q4k at h
 split at h
 · simp at h
 split at h
 · simp at h
 split at h
 · simp at h
 split at h
 · simp at h
 split at h
 · simp at h
 split at h
 · simp at h
 · injection h with h
   exact ⟨_, _, h.symm⟩
theorem z32 {d : Nat} {f : q1e} (hf : q4f d f) {hs : List HN} {j : JT} {a : List UInt8} {new : List NT} {k : Int} (h : q38 f hs j a = .ok (new, k)) : OrdN (d + 1) hs new k := by
 unfold q38 at h
 split at h
 · simp at h
 split at h
 · exact j9m hf (.inl rfl) h
 split at h
 · exact j9m hf (.inr rfl) h
 split at h
 · rename_i hnk
   split at h
   · simp at h
   · rename_i n hn
     obtain ⟨nm, l, rfl⟩ := head_kind hn
     split at h
     · rename_i h9
       exact z4a hf (by simp only []; omega) h
     split at h
     · rename_i h9 h10
       unfold q4r at h
       split at h
       · simp at h
       split at h
       · simp at h
       split at h
       · simp at h
       split at h
       · exact j3f (by unfold q2g; simp only []; rw [if_neg (by omega), if_neg (by omega), if_neg (by omega)]) h
       split at h
       · simp at h
       split at h
       · exact j3f (by unfold q2g; simp only []; rw [if_neg (by omega), if_neg (by omega), if_neg (by omega)]) h
       · simp at h
     · rename_i h9 h10
       unfold q45 at h
       simp only [q00, Bool.or_eq_true, beq_iff_eq] at hnk
       split at h
       · simp at h
       split at h
       · simp at h
       · refine j3f ?_ h
         unfold q2g
         simp only []
         rw [if_neg (by omega), if_neg (by omega), if_neg (by omega)]
 · exact z11 h
theorem q7h : ∀ d, q4f d (q1s d)
 | 0 => fun hs j a new k _ h => by rw [q1s] at h; simp at h
 | d + 1 => fun hs j a new k hl h => by
   rw [q1s] at h
   simp only [] at h
   split at h
   · exact z11 h
   split at h
   · exact union_ord (q7h d) h
   split at h
   · exact z32 (q7h d) h
   · simp at h
theorem q71 {j : JT} {s : ST} (h : q3d j = .ok s) : q27 s = true := by
 unfold q3d at h
 split at h
 · split at h
   · simp at h
   · rename_i ns k hn
     injection h with h
     subst h
     rcases q7h 33 [] j [] ns k (by simp) hn with ⟨_, h1, h2, _⟩ | ⟨_, _, h2, h3⟩
     · simp at h2; omega
     · have h4 := h3 ns ⟨fun i h hi => by simp at hi, fun i n hi => by simpa using hi⟩
       simp only [List.length_nil, Nat.zero_add] at h2 h4
       have hne : ns ≠ [] := by
        rintro rfl
        rw [q2t] at h4
        simp at h4
       have : 0 < ns.length := List.length_pos_iff.2 hne
       unfold q27
       simp only []
       rw [h4]
       simp
       omega
 · simp at h

/-! Trees' parts. -/
theorem q8p {j i : JT} {key : List UInt8} (h : jget j key = some i) : j.kd = 6 ∧ i ∈ j.its := by
 cases j with
 | mk k n s ks xs =>
   unfold jget at h
   simp only [] at h
   split at h
   · rename_i hk
     exact ⟨hk.1, List.mem_of_getElem? h⟩
   · simp at h
structure Ok (D : Nat) (j : JT) : Prop where
 shape : q49 j = true
 deep : q1o j ≤ D
theorem z0r : ∀ {xs : List JT}, q6d xs = true → ∀ x ∈ xs, q49 x = true
 | x :: xs, h, y, hy => by
   rw [q6d, Bool.and_eq_true] at h
   rcases List.mem_cons.1 hy with rfl | hy
   · exact h.1
   · exact z0r h.2 y hy
theorem Ok.item {D : Nat} {j x : JT} (h : Ok D j) (hk : j.kd = 5 ∨ j.kd = 6) (hx : x ∈ j.its) : 1 ≤ D ∧ Ok (D - 1) x := by
 obtain ⟨h1, h2⟩ := h
 cases j with
 | mk k n s ks xs =>
   simp only [JT.kd, JT.its] at hk hx
   rw [q1o, if_pos hk] at h2
   have := (j4a xs 1).2 x hx
   rw [q49, Bool.and_eq_true] at h1
   exact ⟨by omega, z0r h1.2 x hx, by omega⟩
theorem Ok.get {D : Nat} {j x : JT} (h : Ok D j) {key : List UInt8} (hx : jget j key = some x) : 1 ≤ D ∧ Ok (D - 1) x := by
 obtain ⟨h1, h2⟩ := q8p hx
 exact h.item (.inr h1) h2
theorem Ok.right {D : Nat} {j : JT} (h : Ok D j) (hD : D ≤ 32) : jR j = true := by
 rw [q7c, h.shape]
 have := h.deep
 simp
 omega
theorem Ok.mono {D E : Nat} {j : JT} (h : Ok D j) (he : D ≤ E) : Ok E j := ⟨h.shape, Nat.le_trans h.deep he⟩
/-! Names. -/
theorem j81 {sp n f : List UInt8} (h : q1q sp n = some f) : q2n f = true := by
 unfold q1q at h
 repeat' split at h
 all_goals first | (simp at h; done) | (obtain rfl := Option.some.inj h; assumption)
theorem z4k {s t : List UInt8} (h : q88 s = some t) : q1b t = true := by
 unfold q88 at h
 split at h
 · obtain rfl := Option.some.inj h
   assumption
 · simp at h
theorem j9o {full : List UInt8 → Option (List UInt8)} {p : List UInt8 → Bool} (hp : ∀ s t, full s = some t → p t = true) : ∀ (l r : List (List UInt8)), mapB full l = .ok r → r.length = l.length ∧ ∀ t ∈ r, p t = true
 | [], r, h => by
   rw [mapB] at h
   injection h with h
   subst h
   exact ⟨rfl, by simp⟩
 | s :: l, r, h => by
   rw [mapB] at h
   split at h
   · simp at h
   · rename_i t ht
     split at h
     · rename_i r2 hr
       injection h with h
       subst h
       obtain ⟨h1, h2⟩ := j9o hp l r2 hr
       refine ⟨by simp [h1], fun x hx => ?_⟩
       rcases List.mem_cons.1 hx with rfl | hx
       · exact hp s _ ht
       · exact h2 x hx
     · simp at h
theorem j9f {x : JT} {l : List (List UInt8)} (h : q53 x = .ok l) : l.length ≤ 40 := by
 unfold q53 at h
 split at h
 · simp at h
 · split at h
   · split at h
     · simp at h
     · injection h with h
       subst h
       omega
   · simp at h
theorem j61 {full : List UInt8 → Option (List UInt8)} {p : List UInt8 → Bool} (hp : ∀ s t, full s = some t → p t = true) {j : JT} {l : List (List UInt8)} (h : q5t full j = .ok l) : allM p l = true := by
 unfold q5t at h
 unfold allM
 split at h
 · injection h with h
   subst h
   rfl
 · split at h
   · rename_i l0 h0
     obtain ⟨h1, h2⟩ := j9o hp _ _ h
     have := j9f h0
     simp only [Bool.and_eq_true, decide_eq_true_eq, List.all_eq_true]
     exact ⟨by omega, h2⟩
   · simp at h
theorem simple_ne {s : List UInt8} (h : q1b s = true) : s ≠ [] := by
 rintro rfl
 simp [q1b, q5k] at h
/-! Nodes. -/
theorem z36 {full : List NT} {k : Nat} (h1 : 1 ≤ k) (h2 : k ≤ 8) : q2h full (q1d k) = true := by
 have hk : k = 1 ∨ k = 2 ∨ k = 3 ∨ k = 4 ∨ k = 5 ∨ k = 6 ∨ k = 7 ∨ k = 8 := by omega
 unfold q2h
 rcases hk with rfl | rfl | rfl | rfl | rfl | rfl | rfl | rfl <;> simp [q1d, q4p, q00]
theorem z08 : ∀ (l done : List (List UInt8)), q5l done l = .ok () → (∀ s ∈ l, q1b s = true) ∧ l.Nodup ∧ ∀ s ∈ l, s ∉ done
 | [], done, _ => ⟨by simp, by simp, by simp⟩
 | s :: l, done, h => by
   rw [q5l] at h
   split at h
   · simp at h
   rename_i hs
   split at h
   · simp at h
   rename_i hd
   obtain ⟨h1, h2, h3⟩ := z08 l _ h
   refine ⟨fun x hx => ?_, List.nodup_cons.2 ⟨fun hm => ?_, h2⟩, fun x hx => ?_⟩
   · rcases List.mem_cons.1 hx with rfl | hx
     · simpa using hs
     · exact h1 x hx
   · exact h3 s hm (by simp)
   · rcases List.mem_cons.1 hx with rfl | hx
     · exact hd
     · exact fun hm => h3 x hx (by simp [hm])
theorem j7t {l : List (List UInt8)} (h1 : ∀ s ∈ l, q1b s = true) (h2 : l.Nodup) : q3v q1b l = true := by
 unfold q3v
 simp only [Bool.and_eq_true, List.all_eq_true, decide_eq_true_eq]
 exact ⟨h1, h2⟩
theorem j48 {hs : List HN} {j : JT} {k : Int} {a : List UInt8} {n : NT} (h : q4k hs j k a = .ok n) : ∃ f l, n = ⟨k, f, l, [], [], false, [], 0, 0, []⟩ ∧ q2n f = true ∧ q0p f = 0 ∧ allM q2n l = true ∧ q1v hs f < 0 := by
 unfold q4k at h
 split at h
 · simp at h
 split at h
 · simp at h
 split at h
 · simp at h
 rename_i f hf
 split at h
 · simp at h
 rename_i hk
 split at h
 · simp at h
 rename_i hfi
 split at h
 · simp at h
 · rename_i l hl
   injection h with h
   exact ⟨f, l, h.symm, j81 hf, by omega, j61 (fun s t => j81) hl, by omega⟩
theorem field_ok {D : Nat} {x : JT} (hx : Ok D x) (hD : D ≤ 33) {l : List FT} {g : FT} (h : q4s x l = .ok g) : (∀ t, q44 { g with type := t } = true) ∧ q1b g.name = true ∧ g.name ∉ l.map (·.name) := by
 unfold q4s at h
 split at h
 · simp at h
 split at h
 · simp at h
 rename_i nm hn
 split at h
 · simp at h
 rename_i hs
 split at h
 · simp at h
 rename_i hd
 split at h
 · simp at h
 rename_i al hal
 split at h
 · simp at h
 injection h with h
 subst h
 refine ⟨fun t => ?_, by simpa using hs, fun hm => ?_⟩
 · unfold q44
   simp only []
   rw [j61 (fun s t => z4k) hal, Bool.true_and]
   cases hg : jget x q17 with
   | none => simp [j8z]
   | some y =>
     obtain ⟨h1, h2⟩ := hx.get hg
     simp only [Option.isSome_some, Option.getD_some, if_true]
     exact h2.right (by omega)
 · apply hd
   rw [List.any_eq_true]
   obtain ⟨f, hf, hfe⟩ := List.mem_map.1 hm
   exact ⟨f, hf, by simp [hfe]⟩
def q65 (f : q1e) : Prop := ∀ hs j a new k, hs.length ≤ 200 → Ok 32 j → f hs j a = .ok (new, k) → ∀ full, Fits full hs new → ∀ n ∈ new, q2h full n = true
theorem j4h {α : Type} {f g : α → Bool} : ∀ {l : List α}, (∀ x ∈ l, f x = g x) → l.any f = l.any g
 | [], _ => rfl
 | x :: l, h => by rw [List.any_cons, List.any_cons, h x (by simp), j4h fun y hy => h y (by simp [hy])]
theorem z2w {full : List NT} {hs : List HN} {new : List NT} (hf : Fits full hs new) {ks : List Int} {k : Int} (hk : 0 ≤ k ∧ k < ((hs.length + new.length : Nat) : Int)) (hks : ∀ o ∈ ks, 0 ≤ o ∧ o < ((hs.length + new.length : Nat) : Int)) :
  j22 full ks k = q4q (hs ++ new.map q0k) ks k := by
 have hfr : Fits full (hs ++ new.map q0k) [] := by
  have : Fits full hs (new ++ []) := by rw [List.append_nil]; exact hf
  exact this.right
 have hke : ∀ o : Int, 0 ≤ o → o < ((hs.length + new.length : Nat) : Int) → q2c full o.toNat = q2v (hs ++ new.map q0k) o.toNat := fun o h1 h2 => hfr.kind (by simp; omega)
 unfold j22 q4q
 rw [hke k hk.1 hk.2]
 congr 2
 exact j4h fun o ho => by rw [hke o (hks o ho).1 (hks o ho).2]
theorem z1i {d : Nat} {f : q1e} (ho : q4f d f) (hg : q65 f) (hs : List HN) (a : List UInt8) : ∀ (xs : List JT), (∀ x ∈ xs, Ok 32 x) → ∀ (ks : List Int) (new : List NT) (ks' : List Int) (new' : List NT), hs.length + new.length ≤ 200 →
  (∀ o ∈ ks, 0 ≤ o ∧ o < ((hs.length + new.length : Nat) : Int)) → q14 f hs a xs ks new = .ok (ks', new') →
  ∃ ks1 m, ks' = ks ++ ks1 ∧ new' = new ++ m ∧ ks1.length = xs.length ∧ ∀ full, Fits full hs new' → q6n full ks ks1 = true ∧ ∀ n ∈ m, q2h full n = true
 | [], _, ks, new, ks', new', hl, hks, h => by
   rw [q14] at h
   injection h with h
   injection h with h1 h2
   subst h1 h2
   exact ⟨[], [], by simp, by simp, rfl, fun full _ => ⟨rfl, by simp⟩⟩
 | x :: xs, hx, ks, new, ks', new', hl, hks, h => by
   rw [q14] at h
   split at h
   · simp at h
   · rename_i m k hk
     split at h
     · rename_i hb
       have hod := ho _ _ _ _ _ (by simpa using hl) hk
       have hol := hod.len (by simpa using hl)
       have hlt := hod.lt
       simp only [List.length_append, List.length_map] at hol hlt
       obtain ⟨ks1, m1, h1, h2, h3, h4⟩ := z1i ho hg hs a xs (fun y hy => hx y (by simp [hy])) _ _ _ _ (by simp; omega) (fun o hom => by
        simp only [List.length_append]
        rcases List.mem_append.1 hom with hom | hom
        · have := hks o hom
          omega
        · obtain rfl := List.mem_singleton.1 hom
          omega) h
       refine ⟨k :: ks1, m ++ m1, by rw [h1]; simp, by rw [h2]; simp, by simp [h3], fun full hfit => ?_⟩
       obtain ⟨h5, h6⟩ := h4 full hfit
       rw [h2] at hfit
       have hg1 := hg _ _ _ _ _ (by simpa using hl) (hx x (by simp)) hk full hfit.left.right
       refine ⟨?_, fun n hn => ?_⟩
       · rw [q6n, h5, Bool.and_true]
         rw [z2w hfit.left (by simp only [List.length_append]; omega) (fun o hom => by
          simp only [List.length_append]
          have := hks o hom
          omega)]
         exact hb
       · rcases List.mem_append.1 hn with hn | hn
         · exact hg1 n hn
         · exact h6 n hn
     · simp at h
theorem j76 {d : Nat} {f : q1e} (ho : q4f d f) (hg : q65 f) (hs : List HN) (a : List UInt8) : ∀ (xs : List JT), (∀ x ∈ xs, Ok 32 x) → ∀ (fs : List FT) (new : List NT) (fs' : List FT) (new' : List NT), hs.length + new.length ≤ 200 → (∀ g ∈ fs, q44 g = true) → (∀ g ∈ fs, q1b g.name = true) → (fs.map (·.name)).Nodup →
  q18 f hs a xs fs new = .ok (fs', new') →
  fs'.length = fs.length + xs.length ∧ (∀ g ∈ fs', q44 g = true) ∧ (∀ g ∈ fs', q1b g.name = true) ∧ (fs'.map (·.name)).Nodup ∧ ∃ m, new' = new ++ m ∧ ∀ full, Fits full hs new' → ∀ n ∈ m, q2h full n = true
 | [], _, fs, new, fs', new', hl, q1, q2, q3, h => by
   rw [q18] at h
   injection h with h
   injection h with h1 h2
   subst h1 h2
   exact ⟨by simp, q1, q2, q3, [], by simp, fun full _ => by simp⟩
 | x :: xs, hx, fs, new, fs', new', hl, q1, q2, q3, h => by
   rw [q18] at h
   split at h
   · simp at h
   · rename_i g hgf
     obtain ⟨g1, g2, g3⟩ := field_ok (hx x (by simp)) (by omega) hgf
     split at h
     · simp at h
     · rename_i m k hk
       have hod := ho _ _ _ _ _ (by simpa using hl) hk
       have hol := hod.len (by simpa using hl)
       simp only [List.length_append, List.length_map] at hol
       have hty : Ok 32 ((jget x q0o).getD q2b) := by
        cases hgx : jget x q0o with
        | none =>
          exfalso
          unfold q4s at hgf
          rw [hgx] at hgf
          repeat' split at hgf
          all_goals simp_all
        | some y =>
          obtain ⟨h1, h2⟩ := (hx x (by simp)).get hgx
          exact h2.mono (by omega)
       obtain ⟨r1, r2, r3, r4, m1, r5, r6⟩ := j76 ho hg hs a xs (fun y hy => hx y (by simp [hy])) _ _ _ _ (by simp; omega)
        (fun z hz => by
         rcases List.mem_append.1 hz with hz | hz
         · exact q1 z hz
         · obtain rfl := List.mem_singleton.1 hz
           exact g1 k)
        (fun z hz => by
         rcases List.mem_append.1 hz with hz | hz
         · exact q2 z hz
         · obtain rfl := List.mem_singleton.1 hz
           exact g2)
        (by
         rw [List.map_append, List.nodup_append]
         refine ⟨q3, by simp, fun y hy z hz => ?_⟩
         simp only [List.map_cons, List.map_nil, List.mem_singleton] at hz
         rintro rfl
         exact g3 (hz ▸ hy)) h
       refine ⟨by rw [r1]; simp; omega, r2, r3, r4, m ++ m1, by rw [r5]; simp, fun full hfit n hn => ?_⟩
       have h6 := r6 full hfit
       rw [r5] at hfit
       rcases List.mem_append.1 hn with hn | hn
       · exact hg _ _ _ _ _ (by simpa using hl) hty hk full hfit.left.right n hn
       · exact h6 n hn
theorem j3e {hs : List HN} {n : NT} {new : List NT} {k : Int} (h : q3q hs n = .ok (new, k)) {full : List NT} (hn : q2h full n = true) : ∀ m ∈ new, q2h full m = true := by
 unfold q3q at h
 split at h
 · simp at h
 · injection h with h
   injection h with h1 h2
   subst h1
   intro m hm
   obtain rfl := List.mem_singleton.1 hm
   exact hn
theorem z1z {hs : List HN} {w a : List UInt8} {new : List NT} {k : Int} (h : q3y hs w a = .ok (new, k)) (full : List NT) : ∀ m ∈ new, q2h full m = true := by
 unfold q3y at h
 split at h
 · rename_i hk
   exact j3e h (z36 hk.1 hk.2)
 · split at h
   · simp at h
   · split at h
     · simp at h
     · injection h with h
       injection h with h1 h2
       subst h1
       simp
theorem z44 {d : Nat} {f : q1e} (ho : q4f d f) (hg : q65 f) {hs : List HN} {l : List JT} (hl : ∀ x ∈ l, Ok 32 x) {a : List UInt8} {new : List NT} {k : Int} (h : q3x f hs l a = .ok (new, k)) {full : List NT} (hf : Fits full hs new) : ∀ m ∈ new, q2h full m = true := by
 unfold q3x at h
 split at h
 · simp at h
 rename_i hlen
 split at h
 · simp at h
 rename_i h200
 split at h
 · simp at h
 · rename_i ks m hu
   injection h with h
   injection h with h1 h2
   subst h1 h2
   obtain ⟨ks1, m1, e1, e2, e3, h4⟩ := z1i ho hg _ a l hl [] [] ks m (by simp; omega) (by simp) hu
   simp only [List.nil_append] at e1 e2
   subst e1 e2
   have hf2 : Fits full hs ([{ q1d 13 with branches := ks }] ++ m) := hf
   obtain ⟨h5, h6⟩ := h4 full hf2.right
   intro x hx
   rcases List.mem_cons.1 hx with rfl | hx
   · unfold q2h
     have : j1x full ks = true := by
      unfold j1x
      rw [h5]
      simp
      omega
     simp [q1d, q4p, q00, this]
   · exact h6 x hx
theorem j9l {d : Nat} {f : q1e} (hg : q65 f) {hs : List HN} {j : JT} (hj : Ok 32 j) {kd : Int} (hkd : kd = 11 ∨ kd = 12) {key a : List UInt8} {new : List NT} {k : Int} (h : q3f f hs j kd key a = .ok (new, k)) {full : List NT} (hf : Fits full hs new) : ∀ m ∈ new, q2h full m = true := by
 unfold q3f at h
 split at h
 · simp at h
 rename_i y hy
 split at h
 · simp at h
 rename_i h200
 split at h
 · simp at h
 · rename_i m i hu
   injection h with h
   injection h with h1 h2
   subst h1 h2
   have hf2 : Fits full hs ([{ q1d kd with items := i }] ++ m) := hf
   have h6 := hg _ _ _ _ _ (by simp; omega) ((hj.get hy).2.mono (by omega)) hu full hf2.right
   intro x hx
   rcases List.mem_cons.1 hx with rfl | hx
   · unfold q2h
     rcases hkd with rfl | rfl <;> simp [q1d, q4p, q00]
   · exact h6 x hx

theorem z39 {d : Nat} {f : q1e} (ho : q4f d f) (hg : q65 f) {hs : List HN} {j : JT} (hj : Ok 32 j) {nm : List UInt8} {al : List (List UInt8)} (h1 : q2n nm = true) (h2 : q0p nm = 0) (h3 : allM q2n al = true) {new : List NT} {k : Int}
  (h : q32 f hs j ⟨9, nm, al, [], [], false, [], 0, 0, []⟩ = .ok (new, k)) {full : List NT} (hf : Fits full hs new) : ∀ m ∈ new, q2h full m = true := by
 unfold q32 at h
 split at h
 · simp at h
 rename_i hk5
 split at h
 · simp at h
 rename_i h40
 split at h
 · simp at h
 rename_i h200
 split at h
 · simp at h
 · rename_i fs m hu
   injection h with h
   injection h with e1 e2
   subst e1 e2
   have hits : ∀ x ∈ ((jget j q0z).getD q2b).its, Ok 32 x := by
    cases hgf : jget j q0z with
    | none => simp [q2b, JT.its]
    | some y =>
      intro x hx
      rw [hgf] at hk5
      simp only [Option.getD_some] at hk5 hx
      obtain ⟨_, hy⟩ := hj.get hgf
      exact (hy.item (.inl (by simpa using hk5)) hx).2.mono (by omega)
   obtain ⟨r1, r2, r3, r4, m1, r5, r6⟩ := j76 ho hg _ _ _ hits [] [] fs m (by simp; omega) (by simp) (by simp) (by simp) hu
   simp only [List.nil_append] at r5
   subst r5
   have hf2 : Fits full hs ([(⟨9, nm, al, fs, [], false, [], 0, 0, []⟩ : NT)] ++ m) := hf
   have h6 := r6 full hf2.right
   intro x hx
   rcases List.mem_cons.1 hx with rfl | hx
   · have hF : q69 fs = true := by
      unfold q69
      rw [j7t (fun y hy => by obtain ⟨g, hg, rfl⟩ := List.mem_map.1 hy; exact r3 g hg) r4]
      simp only [Bool.and_true, Bool.and_eq_true, List.all_eq_true, decide_eq_true_eq]
      exact ⟨r2, by simp at r1; omega⟩
     unfold q2h
     simp [q4p, q00, hF, h1, h2, h3]
   · exact h6 x hx
theorem enum_good {hs : List HN} {j : JT} {nm : List UInt8} {al : List (List UInt8)} (h1 : q2n nm = true) (h2 : q0p nm = 0) (h3 : allM q2n al = true) {new : List NT} {k : Int}
  (h : q4r hs j ⟨10, nm, al, [], [], false, [], 0, 0, []⟩ = .ok (new, k)) (full : List NT) : ∀ m ∈ new, q2h full m = true := by
 unfold q4r at h
 split at h
 · simp at h
 rename_i l hl
 have h40 := j9f hl
 split at h
 · simp at h
 rename_i hne
 split at h
 · simp at h
 rename_i u hsy
 obtain ⟨s1, s2, _⟩ := z08 l [] (by rw [hsy])
 have hD := j7t s1 s2
 have hpos : 1 ≤ l.length := List.length_pos_iff.2 hne
 split at h
 · refine j3e h ?_
   have hc : l.contains ([] : List UInt8) = false := by
    rw [List.contains_eq_mem]
    simp only [decide_eq_false_iff_not]
    exact fun hm => simple_ne (s1 [] hm) rfl
   unfold q2h
   simp [q4p, q00, h1, h2, h3, hD, h40, hpos, hc]
   simpa using hc
 · split at h
   · simp at h
   rename_i dd hdd
   split at h
   · rename_i hin
     refine j3e h ?_
     unfold q2h
     simp [q4p, q00, h1, h2, h3, hD, h40, hpos, hin]
   · simp at h
theorem z3l {hs : List HN} {j : JT} {nm : List UInt8} {al : List (List UInt8)} (h1 : q2n nm = true) (h2 : q0p nm = 0) (h3 : allM q2n al = true) {new : List NT} {k : Int}
  (h : q45 hs j ⟨14, nm, al, [], [], false, [], 0, 0, []⟩ = .ok (new, k)) (full : List NT) : ∀ m ∈ new, q2h full m = true := by
 unfold q45 at h
 split at h
 · simp at h
 split at h
 · simp at h
 rename_i hsz
 refine j3e h ?_
 unfold q2h
 have e1 : 0 ≤ ((jget j q1w).getD q2b).num := by omega
 have e2 : ((jget j q1w).getD q2b).num ≤ 1000 := by omega
 simp [q4p, q00, h1, h2, h3, e1, e2]
theorem z30 {d : Nat} {f : q1e} (ho : q4f d f) (hg : q65 f) {hs : List HN} {j : JT} (hj : Ok 32 j) {a : List UInt8} {new : List NT} {k : Int} (h : q38 f hs j a = .ok (new, k)) {full : List NT} (hf : Fits full hs new) : ∀ m ∈ new, q2h full m = true := by
 unfold q38 at h
 split at h
 · simp at h
 rename_i w hw
 split at h
 · exact j9l (d := d) hg hj (.inl rfl) h hf
 split at h
 · exact j9l (d := d) hg hj (.inr rfl) h hf
 split at h
 · rename_i hnk
   split at h
   · simp at h
   · rename_i n hn
     obtain ⟨nm, al, rfl, a1, a2, a3, _⟩ := j48 hn
     split at h
     · rename_i h9
       rw [h9] at h
       exact z39 ho hg hj a1 a2 a3 h hf
     split at h
     · rename_i h9 h10
       rw [h10] at h
       exact enum_good a1 a2 a3 h full
     · rename_i h9 h10
       have h14 : q0p w = 14 := by
        simp only [q00, Bool.or_eq_true, beq_iff_eq] at hnk
        omega
       rw [h14] at h
       exact z3l a1 a2 a3 h full
 · exact z1z h full
theorem j5q : ∀ d, q65 (q1s d)
 | 0 => fun hs j a new k _ _ h => by rw [q1s] at h; simp at h
 | d + 1 => fun hs j a new k hl hj h full hf => by
   rw [q1s] at h
   simp only [] at h
   split at h
   · exact z1z h full
   split at h
   · rename_i h5
     exact z44 (q7h d) (j5q d) (fun x hx => (hj.item (.inl h5) hx).2.mono (by omega)) h hf
   split at h
   · exact z30 (q7h d) (j5q d) hj h hf
   · simp at h
/-! Names are not told twice. -/
def q2p (hs : List HN) : List (List UInt8) := (hs.filter fun h => q00 h.1).map (·.2)
theorem j9t (a b : List HN) : q2p (a ++ b) = q2p a ++ q2p b := by unfold q2p; rw [List.filter_append, List.map_append]
theorem namesH_of (ns : List NT) : q2w ns = q2p (ns.map q0k) := by
 unfold q2w q2p
 induction ns with
 | nil => rfl
 | cons n ns ih =>
   rw [List.map_cons, List.filter_cons, List.filter_cons]
   change _ = List.map _ (if q00 n.kind = true then _ else _)
   split
   · rw [List.map_cons, List.map_cons, ih]
     rfl
   · exact ih
theorem z3k {hs : List HN} {f : List UInt8} (h : q1v hs f < 0) : f ∉ q2p hs := by
 intro hm
 unfold q2p at hm
 obtain ⟨x, hx, rfl⟩ := List.mem_map.1 hm
 obtain ⟨h1, h2⟩ := List.mem_filter.1 hx
 unfold q1v at h
 cases hf : hs.findIdx? (isH x.2) with
 | none =>
   rw [List.findIdx?_eq_none_iff] at hf
   have := hf x h1
   simp [isH] at this
   rw [this] at h2
   simp at h2
 | some i => rw [hf] at h; simp at h; omega
def NamesB (f : q1e) : Prop := ∀ hs j a new k, (q2p hs).Nodup → f hs j a = .ok (new, k) → (q2p (hs ++ new.map q0k)).Nodup
theorem j6e (hs : List HN) {k : Int} (hk : q00 k = false) (s : List UInt8) : q2p (hs ++ [(k, s)]) = q2p hs := by
 rw [j9t]
 simp [q2p, hk]
theorem j41 {hs : List HN} {n : NT} (hn : (q2p (hs ++ [q0k n])).Nodup) {new : List NT} {k : Int} (h : q3q hs n = .ok (new, k)) : (q2p (hs ++ new.map q0k)).Nodup := by
 unfold q3q at h
 split at h
 · simp at h
 · injection h with h
   injection h with h1 h2
   subst h1
   exact hn
theorem z10 {hs : List HN} (hn : (q2p hs).Nodup) {w a : List UInt8} {new : List NT} {k : Int} (h : q3y hs w a = .ok (new, k)) : (q2p (hs ++ new.map q0k)).Nodup := by
 unfold q3y at h
 split at h
 · rename_i hk
   refine j41 ?_ h
   unfold q0k q1d
   simp only []
   rw [j6e]
   · exact hn
   · unfold q00
     simp
     omega
 · split at h
   · simp at h
   · split at h
     · simp at h
     · injection h with h
       injection h with h1 h2
       subst h1
       simpa using hn
theorem z1j {f : q1e} (hf : NamesB f) (hs : List HN) (a : List UInt8) : ∀ (xs : List JT) (ks : List Int) (new : List NT) (ks' : List Int) (new' : List NT), (q2p (hs ++ new.map q0k)).Nodup → q14 f hs a xs ks new = .ok (ks', new') → (q2p (hs ++ new'.map q0k)).Nodup
 | [], ks, new, ks', new', hn, h => by
   rw [q14] at h
   injection h with h
   injection h with h1 h2
   subst h2
   exact hn
 | x :: xs, ks, new, ks', new', hn, h => by
   rw [q14] at h
   split at h
   · simp at h
   · rename_i m k hk
     split at h
     · have h1 := hf _ _ _ _ _ hn hk
       rw [List.append_assoc, ← List.map_append] at h1
       exact z1j hf hs a xs _ _ _ _ h1 h
     · simp at h
theorem j77 {f : q1e} (hf : NamesB f) (hs : List HN) (a : List UInt8) : ∀ (xs : List JT) (fs : List FT) (new : List NT) (fs' : List FT) (new' : List NT), (q2p (hs ++ new.map q0k)).Nodup → q18 f hs a xs fs new = .ok (fs', new') → (q2p (hs ++ new'.map q0k)).Nodup
 | [], ks, new, ks', new', hn, h => by
   rw [q18] at h
   injection h with h
   injection h with h1 h2
   subst h2
   exact hn
 | x :: xs, ks, new, ks', new', hn, h => by
   rw [q18] at h
   split at h
   · simp at h
   · split at h
     · simp at h
     · rename_i m k hk
       have h1 := hf _ _ _ _ _ hn hk
       rw [List.append_assoc, ← List.map_append] at h1
       exact j77 hf hs a xs _ _ _ _ h1 h
theorem z3o {hs : List HN} (hn : (q2p hs).Nodup) {f : List UInt8} (hf : q1v hs f < 0) (k : Int) : (q2p (hs ++ [(k, f)])).Nodup := by
 rw [j9t]
 have : q2p [(k, f)] = if q00 k = true then [f] else [] := by
  unfold q2p
  cases hk : q00 k <;> simp [hk]
 rw [this]
 split
 · rw [List.nodup_append]
   refine ⟨hn, by simp, fun x hx y hy => ?_⟩
   obtain rfl := List.mem_singleton.1 hy
   rintro rfl
   exact z3k hf hx
 · simpa using hn
theorem j9w : ∀ d, NamesB (q1s d)
 | 0 => fun hs j a new k _ h => by rw [q1s] at h; simp at h
 | d + 1 => fun hs j a new k hn h => by
   have ih := j9w d
   rw [q1s] at h
   simp only [] at h
   split at h
   · exact z10 hn h
   split at h
   · unfold q3x at h
     split at h
     · simp at h
     split at h
     · simp at h
     split at h
     · simp at h
     · rename_i ks m hu
       injection h with h
       injection h with h1 h2
       subst h1
       have := z1j ih (hs ++ [(13, [])]) a _ _ [] _ _ (by simp only [List.map_nil, List.append_nil]; rw [j6e hs (by rfl)]; exact hn) hu
       rw [List.append_assoc] at this
       exact this
   split at h
   · unfold q38 at h
     have hmany : ∀ (kd : Int) (key : List UInt8), q00 kd = false → q3f (q1s d) hs j kd key a = .ok (new, k) → (q2p (hs ++ new.map q0k)).Nodup := fun kd key hkd h => by
      unfold q3f at h
      split at h
      · simp at h
      split at h
      · simp at h
      split at h
      · simp at h
      · rename_i m i hu
        injection h with h
        injection h with h1 h2
        subst h1
        have := ih _ _ _ _ _ (by rw [j6e hs hkd]; exact hn) hu
        rw [List.append_assoc] at this
        exact this
     split at h
     · simp at h
     rename_i w hw
     split at h
     · exact hmany 11 _ rfl h
     split at h
     · exact hmany 12 _ rfl h
     split at h
     · split at h
       · simp at h
       · rename_i n hnn
         obtain ⟨nm, al, rfl, _, _, _, hfi⟩ := j48 hnn
         have hh := z3o hn hfi (q0p w : Int)
         split at h
         · unfold q32 at h
           split at h
           · simp at h
           split at h
           · simp at h
           split at h
           · simp at h
           split at h
           · simp at h
           · rename_i fs m hu
             injection h with h
             injection h with h1 h2
             subst h1
             have := j77 ih _ _ _ _ [] _ _ (by simpa [q0k] using hh) hu
             rw [List.append_assoc] at this
             exact this
         split at h
         · unfold q4r at h
           repeat' split at h
           all_goals first | (simp at h; done) | exact j41 hh h
         · unfold q45 at h
           repeat' split at h
           all_goals first | (simp at h; done) | exact j41 hh h
     · exact z10 hn h
   · simp at h
theorem z25 {j : JT} {s : ST} (h : q3d j = .ok s) : q7k s = true ↔ ∀ i, i < s.nodes.length → wOf s.nodes i ≤ 1000 := by
 have hO := q71 h
 have hr : ∀ p, ∀ x ∈ q2e s.nodes p, x.type.toNat < s.nodes.length := by
  intro p x hx
  unfold q2e at hx
  split at hx
  · rename_i n hn
    split at hx
    · rename_i h9
      have := j3u hO n (List.mem_of_getElem? hn) x.type (by unfold q2g; rw [if_pos h9]; exact List.mem_map.2 ⟨x, hx, rfl⟩)
      omega
    · simp at hx
  · simp at hx
 obtain ⟨G, hG⟩ := exG s.nodes hr
 have hw : ∀ i, i < s.nodes.length → wOf s.nodes i = G i := fun i hi => wOf_G hG hr hi
 rw [rightM_eq hG hr]
 unfold q3d at h
 split at h
 · rename_i hjr
   split at h
   · simp at h
   · rename_i ns k hn
     injection h with h
     subst h
     have hj : Ok 32 j := by
      rw [q7c, Bool.and_eq_true, decide_eq_true_eq] at hjr
      exact ⟨hjr.2, hjr.1⟩
     have h1 := j5q 33 [] j [] ns k (by simp) hj hn ns ⟨fun i h hi => by simp at hi, fun i n hi => by simpa using hi⟩
     have h2 := j9w 33 [] j [] ns k (by simp [q2p]) hn
     rw [List.nil_append] at h2
     refine ⟨fun ⟨_, _, h3, _⟩ i hi => by rw [hw i hi]; exact h3 i hi, fun h3 => ⟨hO, h1, fun i hi => by rw [← hw i hi]; exact h3 i hi, ?_⟩⟩
     rw [namesH_of]
     exact h2
 · simp at h

/-! How much a tree's depth lets it be built with. -/
theorem j9x (d : Nat) (hs : List HN) (a : List UInt8) : q1s d hs q2b a = .error 30 := by
 cases d <;> rfl
theorem z1g {f g : q1e} {a : List UInt8} : ∀ (xs : List JT), (∀ x ∈ xs, ∀ hs, f hs x a = g hs x a) → ∀ (hs : List HN) (ks : List Int) (new : List NT), q14 f hs a xs ks new = q14 g hs a xs ks new
 | [], _, hs, ks, new => rfl
 | x :: xs, h, hs, ks, new => by
   rw [q14, q14, h x (by simp)]
   split
   · rfl
   · split
     · exact z1g xs (fun y hy => h y (by simp [hy])) _ _ _
     · rfl
theorem j74 {f g : q1e} {a : List UInt8} : ∀ (xs : List JT), (∀ x ∈ xs, ∀ hs, f hs ((jget x q0o).getD q2b) a = g hs ((jget x q0o).getD q2b) a) → ∀ (hs : List HN) (fs : List FT) (new : List NT), q18 f hs a xs fs new = q18 g hs a xs fs new
 | [], _, hs, ks, new => rfl
 | x :: xs, h, hs, ks, new => by
   rw [q18, q18, h x (by simp)]
   split
   · rfl
   · split
     · rfl
     · exact j74 xs (fun y hy => h y (by simp [hy])) _ _ _
theorem j2c {j x : JT} (hk : j.kd = 5 ∨ j.kd = 6) (hx : x ∈ j.its) : q1o x + 1 ≤ q1o j := by
 cases j with
 | mk k n s ks xs =>
   simp only [JT.kd, JT.its] at hk hx
   rw [q1o, if_pos hk]
   exact (j4a xs 1).2 x hx
theorem q8l {j x : JT} {key : List UInt8} (h : jget j key = some x) : q1o x + 1 ≤ q1o j := by
 obtain ⟨h1, h2⟩ := q8p h
 exact j2c (.inr h1) h2
theorem j5t (d : Nat) (hs : List HN) (j : JT) (a : List UInt8) : q1s (d + 1) hs j a = if j.kd = 4 then q3y hs j.txt a else if j.kd = 5 then q3x (q1s d) hs j.its a else if j.kd = 6 then q38 (q1s d) hs j a else .error 30 := rfl
theorem j9v : ∀ (d : Nat) (hs : List HN) (j : JT) (a : List UInt8), q1o j < d → q1s (d + 1) hs j a = q1s d hs j a
 | 0, hs, j, a, h => by omega
 | d + 1, hs, j, a, h => by
   have hget : ∀ x hs a, q1o x < d → q1s (d + 1) hs x a = q1s d hs x a := fun x hs a hx => j9v d hs x a hx
   rw [j5t (d + 1), j5t d]
   split
   · rfl
   split
   · rename_i h5
     unfold q3x
     rw [z1g (f := q1s (d + 1)) (g := q1s d) j.its fun x hx hs => hget x hs a (by have := j2c (.inl h5) hx; omega)]
   split
   · unfold q38
     have hm : ∀ kd key, q3f (q1s (d + 1)) hs j kd key a = q3f (q1s d) hs j kd key a := fun kd key => by
      unfold q3f
      cases hg : jget j key with
      | none => rfl
      | some x => simp only []; rw [hget x _ a (by have := q8l hg; omega)]
     have hr : ∀ n, q32 (q1s (d + 1)) hs j n = q32 (q1s d) hs j n := fun n => by
      unfold q32
      split
      · rfl
      rename_i h5
      rw [j74 (f := q1s (d + 1)) (g := q1s d) _ fun x hx hs => ?_]
      cases hgf : jget j q0z with
      | none => rw [hgf] at hx; simp [q2b, JT.its] at hx
      | some y =>
        rw [hgf] at hx h5
        simp only [Option.getD_some] at hx h5
        have e1 := q8l hgf
        have e2 := j2c (.inl (by simpa using h5)) hx
        cases hgx : jget x q0o with
        | none => simp only [Option.getD_none]; rw [j9x, j9x]
        | some z =>
          have e3 := q8l hgx
          exact hget z hs _ (by omega)
     rw [hm, hm]
     simp only [hr]
   · rfl
/-! Places behind one more node. -/
def shF (f : FT) : FT := { f with type := f.type + 1 }
def shN (n : NT) : NT := { n with fields := n.fields.map shF, items := if n.kind = 11 ∨ n.kind = 12 then n.items + 1 else n.items, branches := n.branches.map (· + 1) }
def u0 : HN := (13, [])
theorem j2l (l : List NT) : (l.map shN).map q0k = l.map q0k := by rw [List.map_map]; rfl
theorem j8g (hs : List HN) (f : List UInt8) : q1v (u0 :: hs) f = if q1v hs f < 0 then -1 else q1v hs f + 1 := by
 unfold q1v
 rw [List.findIdx?_cons, if_neg (by simp [isH, u0, q00])]
 cases hs.findIdx? (isH f) with
 | none => simp
 | some i =>
   simp only [Option.map_some]
   rw [if_neg (by omega)]
   simp
theorem j84 (hs : List HN) {k : Int} (hk : 0 ≤ k) : q2v (u0 :: hs) (k + 1).toNat = q2v hs k.toNat := by
 rw [show (k + 1).toNat = k.toNat + 1 by omega, q2v, q2v, List.getElem?_cons_succ]
theorem j7i (hs : List HN) {ks : List Int} {k : Int} (hk : 0 ≤ k) (hks : ∀ o ∈ ks, 0 ≤ o) : q4q (u0 :: hs) (ks.map (· + 1)) (k + 1) = q4q hs ks k := by
 unfold q4q
 rw [j84 hs hk, List.any_map]
 congr 2
 refine j4h fun o ho => ?_
 simp only [Function.comp]
 rw [j84 hs (hks o ho)]
 congr 1
 rw [Bool.eq_iff_iff, beq_iff_eq, beq_iff_eq]
 omega
def ShB (f g : q1e) : Prop := ∀ hs j a new k, hs.length + 1 ≤ 200 → f hs j a = .ok (new, k) → g (u0 :: hs) j a = if hs.length + new.length + 1 ≤ 200 then .ok (new.map shN, k + 1) else .error 3
theorem z1l {f : q1e} {hs : List HN} {a : List UInt8} : ∀ (xs : List JT) (ks : List Int) (new : List NT) (ks' : List Int) (new' : List NT), q14 f hs a xs ks new = .ok (ks', new') → new.length ≤ new'.length
 | [], ks, new, ks', new', h => by
   rw [q14] at h
   injection h with h
   injection h with h1 h2
   subst h2
   exact Nat.le_refl _
 | x :: xs, ks, new, ks', new', h => by
   rw [q14] at h
   split at h
   · simp at h
   · split at h
     · have := z1l xs _ _ _ _ h
       rw [List.length_append] at this
       omega
     · simp at h
theorem j79 {f : q1e} {hs : List HN} {a : List UInt8} : ∀ (xs : List JT) (ks : List FT) (new : List NT) (ks' : List FT) (new' : List NT), q18 f hs a xs ks new = .ok (ks', new') → new.length ≤ new'.length
 | [], ks, new, ks', new', h => by
   rw [q18] at h
   injection h with h
   injection h with h1 h2
   subst h2
   exact Nat.le_refl _
 | x :: xs, ks, new, ks', new', h => by
   rw [q18] at h
   split at h
   · simp at h
   · split at h
     · simp at h
     · have := j79 xs _ _ _ _ h
       rw [List.length_append] at this
       omega
theorem z1m {d : Nat} {f g : q1e} (ho : q4f d f) (hs0 : ShB f g) (hs : List HN) (a : List UInt8) : ∀ (xs : List JT) (ks : List Int) (new : List NT) (ks' : List Int) (new' : List NT), hs.length + new.length + 1 ≤ 200 → (∀ o ∈ ks, 0 ≤ o) → q14 f hs a xs ks new = .ok (ks', new') →
  q14 g (u0 :: hs) a xs (ks.map (· + 1)) (new.map shN) = if hs.length + new'.length + 1 ≤ 200 then .ok (ks'.map (· + 1), new'.map shN) else .error 3
 | [], ks, new, ks', new', hl, hks, h => by
   rw [q14] at h
   injection h with h
   injection h with h1 h2
   subst h1 h2
   rw [q14, if_pos hl]
 | x :: xs, ks, new, ks', new', hl, hks, h => by
   rw [q14] at h
   split at h
   · simp at h
   · rename_i m k hk
     split at h
     · rename_i hb
       have hlt := (ho _ _ _ _ _ (by simp; omega) hk).lt
       have h1 := hs0 _ _ _ _ _ (by simp; omega) hk
       have hp := z1l xs _ _ _ _ h
       rw [List.length_append] at hp
       simp only [List.length_append, List.length_map] at h1
       rw [q14, j2l, List.cons_append, h1]
       by_cases hm : hs.length + new.length + m.length + 1 ≤ 200
       · rw [if_pos hm]
         simp only []
         rw [List.map_append, j2l, j2l, ← List.map_append, List.cons_append, j7i _ hlt.1 hks, if_pos hb]
         have h2 := z1m ho hs0 hs a xs (ks ++ [k]) (new ++ m) _ _ (by simp; omega) (fun o hom => by
          rcases List.mem_append.1 hom with hom | hom
          · exact hks o hom
          · obtain rfl := List.mem_singleton.1 hom
            exact hlt.1) h
         rw [List.map_append, List.map_append] at h2
         exact h2
       · rw [if_neg hm]
         simp only []
         rw [if_neg (by omega)]
     · simp at h
theorem field_sh {x : JT} {fs : List FT} : q4s x (fs.map shF) = q4s x fs := by
 unfold q4s
 have : ∀ name : List UInt8, ((fs.map shF).any fun f => f.name == name) = (fs.any fun f => f.name == name) := fun name => by rw [List.any_map]; rfl
 simp only [this]
theorem j8a {f g : q1e} (hs0 : ShB f g) (hs : List HN) (a : List UInt8) : ∀ (xs : List JT) (fs : List FT) (new : List NT) (fs' : List FT) (new' : List NT), hs.length + new.length + 1 ≤ 200 → q18 f hs a xs fs new = .ok (fs', new') →
  q18 g (u0 :: hs) a xs (fs.map shF) (new.map shN) = if hs.length + new'.length + 1 ≤ 200 then .ok (fs'.map shF, new'.map shN) else .error 3
 | [], fs, new, fs', new', hl, h => by
   rw [q18] at h
   injection h with h
   injection h with h1 h2
   subst h1 h2
   rw [q18, if_pos hl]
 | x :: xs, fs, new, fs', new', hl, h => by
   rw [q18] at h
   split at h
   · simp at h
   · rename_i y hy
     split at h
     · simp at h
     · rename_i m k hk
       have h1 := hs0 _ _ _ _ _ (by simp; omega) hk
       have hp := j79 xs _ _ _ _ h
       rw [List.length_append] at hp
       simp only [List.length_append, List.length_map] at h1
       rw [q18, field_sh, hy]
       simp only []
       rw [j2l, List.cons_append, h1]
       by_cases hm : hs.length + new.length + m.length + 1 ≤ 200
       · rw [if_pos hm]
         simp only []
         have h2 := j8a hs0 hs a xs (fs ++ [{ y with type := k }]) (new ++ m) _ _ (by simp; omega) h
         rw [List.map_append, List.map_append] at h2
         exact h2
       · rw [if_neg hm]
         simp only []
         rw [if_neg (by omega)]
theorem j3g {hs : List HN} (hl : hs.length + 1 ≤ 200) {n : NT} (hn : shN n = n) {new : List NT} {k : Int} (h : q3q hs n = .ok (new, k)) : q3q (u0 :: hs) n = if hs.length + new.length + 1 ≤ 200 then .ok (new.map shN, k + 1) else .error 3 := by
 unfold q3q at h ⊢
 split at h
 · simp at h
 · injection h with h
   injection h with h1 h2
   subst h1 h2
   simp only [List.length_cons, List.length_nil, List.map_cons, List.map_nil, hn]
   by_cases hh : 200 ≤ hs.length + 1
   · rw [if_pos hh, if_neg (by omega)]
   · rw [if_neg hh, if_pos (by omega)]
     simp
theorem word_sh {hs : List HN} (hl : hs.length + 1 ≤ 200) {w a : List UInt8} {new : List NT} {k : Int} (h : q3y hs w a = .ok (new, k)) : q3y (u0 :: hs) w a = if hs.length + new.length + 1 ≤ 200 then .ok (new.map shN, k + 1) else .error 3 := by
 unfold q3y at h ⊢
 split at h
 · rename_i hk
   rw [if_pos hk]
   refine j3g hl ?_ h
   unfold shN q1d
   simp only [List.map_nil]
   rw [if_neg (by omega)]
 · rename_i hk
   rw [if_neg hk]
   split at h
   · simp at h
   · rename_i f hf
     split at h
     · simp at h
     · rename_i hn
       injection h with h
       injection h with h1 h2
       subst h1 h2
       rw [j8g, if_neg hn, if_neg (by omega), if_pos (by simpa using hl)]
       rfl
theorem union_sh {d : Nat} {f g : q1e} (ho : q4f d f) (hs0 : ShB f g) {hs : List HN} (hl : hs.length + 1 ≤ 200) {l : List JT} {a : List UInt8} {new : List NT} {k : Int} (h : q3x f hs l a = .ok (new, k)) : q3x g (u0 :: hs) l a = if hs.length + new.length + 1 ≤ 200 then .ok (new.map shN, k + 1) else .error 3 := by
 unfold q3x at h ⊢
 split at h
 · simp at h
 rename_i hlen
 rw [if_neg hlen]
 split at h
 · simp at h
 rename_i h200
 split at h
 · simp at h
 · rename_i ks m hu
   injection h with h
   injection h with h1 h2
   subst h1 h2
   rw [List.length_cons, List.length_cons]
   by_cases hh : 200 ≤ hs.length + 1
   · rw [if_pos hh, if_neg (by omega)]
   · rw [if_neg hh]
     have := z1m ho hs0 _ a l [] [] ks m (by simp; omega) (by simp) hu
     simp only [List.map_nil, List.length_append, List.length_singleton] at this
     rw [List.cons_append, this]
     by_cases hm : hs.length + 1 + m.length + 1 ≤ 200
     · rw [if_pos hm, if_pos (by omega)]
       simp [shN, q1d]
     · rw [if_neg hm, if_neg (by omega)]
theorem many_sh {f g : q1e} (hs0 : ShB f g) {hs : List HN} (hl : hs.length + 1 ≤ 200) {j : JT} {kd : Int} (hkd : kd = 11 ∨ kd = 12) {key a : List UInt8} {new : List NT} {k : Int} (h : q3f f hs j kd key a = .ok (new, k)) : q3f g (u0 :: hs) j kd key a = if hs.length + new.length + 1 ≤ 200 then .ok (new.map shN, k + 1) else .error 3 := by
 unfold q3f at h ⊢
 split at h
 · simp at h
 rename_i y hy
 simp only []
 split at h
 · simp at h
 rename_i h200
 split at h
 · simp at h
 · rename_i m i hu
   injection h with h
   injection h with h1 h2
   subst h1 h2
   rw [List.length_cons, List.length_cons]
   by_cases hh : 200 ≤ hs.length + 1
   · rw [if_pos hh, if_neg (by omega)]
   · rw [if_neg hh]
     have := hs0 _ _ _ _ _ (by simp; omega) hu
     simp only [List.length_append, List.length_singleton] at this
     rw [List.cons_append, this]
     by_cases hm : hs.length + 1 + m.length + 1 ≤ 200
     · rw [if_pos hm, if_pos (by omega)]
       simp [shN, q1d, hkd]
     · rw [if_neg hm, if_neg (by omega)]
theorem head_sh {hs : List HN} {j : JT} {k : Int} {a : List UInt8} {n : NT} (h : q4k hs j k a = .ok n) : q4k (u0 :: hs) j k a = .ok n := by
 unfold q4k at h ⊢
 split at h
 · simp at h
 split at h
 · simp at h
 split at h
 · simp at h
 rename_i f hf
 split at h
 · simp at h
 rename_i hk
 rw [if_neg hk]
 split at h
 · simp at h
 rename_i hfi
 have e : q1v (u0 :: hs) f = -1 := by rw [j8g, if_pos (by omega)]
 rw [e, if_neg (by decide)]
 exact h
theorem record_sh {f g : q1e} (hs0 : ShB f g) {hs : List HN} (hl : hs.length + 1 ≤ 200) {j : JT} {nm : List UInt8} {al : List (List UInt8)} {new : List NT} {k : Int} (h : q32 f hs j ⟨9, nm, al, [], [], false, [], 0, 0, []⟩ = .ok (new, k)) :
  q32 g (u0 :: hs) j ⟨9, nm, al, [], [], false, [], 0, 0, []⟩ = if hs.length + new.length + 1 ≤ 200 then .ok (new.map shN, k + 1) else .error 3 := by
 unfold q32 at h ⊢
 split at h
 · simp at h
 rename_i h5
 rw [if_neg h5]
 split at h
 · simp at h
 rename_i h40
 rw [if_neg h40]
 split at h
 · simp at h
 rename_i h200
 split at h
 · simp at h
 · rename_i fs m hu
   injection h with h
   injection h with h1 h2
   subst h1 h2
   rw [List.length_cons, List.length_cons]
   by_cases hh : 200 ≤ hs.length + 1
   · rw [if_pos hh, if_neg (by omega)]
   · rw [if_neg hh]
     have := j8a hs0 _ _ _ [] [] fs m (by simp; omega) hu
     simp only [List.map_nil, List.length_append, List.length_singleton] at this
     rw [List.cons_append, this]
     by_cases hm : hs.length + 1 + m.length + 1 ≤ 200
     · rw [if_pos hm, if_pos (by omega)]
       simp [shN]
     · rw [if_neg hm, if_neg (by omega)]
theorem j5j (n : NT) (h : n.fields = []) (h2 : n.branches = []) (h3 : ¬ (n.kind = 11 ∨ n.kind = 12)) : shN n = n := by
 cases n
 simp only at h h2 h3
 subst h h2
 simp [shN, h3]
theorem enum_sh {hs : List HN} (hl : hs.length + 1 ≤ 200) {j : JT} {nm : List UInt8} {al : List (List UInt8)} {new : List NT} {k : Int} (h : q4r hs j ⟨10, nm, al, [], [], false, [], 0, 0, []⟩ = .ok (new, k)) :
  q4r (u0 :: hs) j ⟨10, nm, al, [], [], false, [], 0, 0, []⟩ = if hs.length + new.length + 1 ≤ 200 then .ok (new.map shN, k + 1) else .error 3 := by
 unfold q4r at h ⊢
 split at h
 · simp at h
 split at h
 · simp at h
 rename_i hne
 rw [if_neg hne]
 split at h
 · simp at h
 split at h
 · exact j3g hl (j5j _ rfl rfl (by simp)) h
 · split at h
   · simp at h
   split at h
   · rename_i hin
     simp only []
     rw [if_pos hin]
     exact j3g hl (j5j _ rfl rfl (by simp)) h
   · simp at h
theorem fixed_sh {hs : List HN} (hl : hs.length + 1 ≤ 200) {j : JT} {nm : List UInt8} {al : List (List UInt8)} {new : List NT} {k : Int} (h : q45 hs j ⟨14, nm, al, [], [], false, [], 0, 0, []⟩ = .ok (new, k)) :
  q45 (u0 :: hs) j ⟨14, nm, al, [], [], false, [], 0, 0, []⟩ = if hs.length + new.length + 1 ≤ 200 then .ok (new.map shN, k + 1) else .error 3 := by
 unfold q45 at h ⊢
 split at h
 · simp at h
 rename_i h3
 rw [if_neg h3]
 split at h
 · simp at h
 rename_i hz
 rw [if_neg hz]
 exact j3g hl (j5j _ rfl rfl (by simp)) h
theorem object_sh {f g : q1e} (hs0 : ShB f g) {hs : List HN} (hl : hs.length + 1 ≤ 200) {j : JT} {a : List UInt8} {new : List NT} {k : Int} (h : q38 f hs j a = .ok (new, k)) : q38 g (u0 :: hs) j a = if hs.length + new.length + 1 ≤ 200 then .ok (new.map shN, k + 1) else .error 3 := by
 unfold q38 at h ⊢
 split at h
 · simp at h
 rename_i w hw
 split at h
 · rename_i h11
   rw [if_pos h11]
   exact many_sh hs0 hl (.inl rfl) h
 rename_i h11
 rw [if_neg h11]
 split at h
 · rename_i h12
   rw [if_pos h12]
   exact many_sh hs0 hl (.inr rfl) h
 rename_i h12
 rw [if_neg h12]
 split at h
 · rename_i hnk
   rw [if_pos hnk]
   split at h
   · simp at h
   · rename_i n hn
     rw [head_sh hn]
     obtain ⟨nm, al, rfl, _⟩ := j48 hn
     simp only []
     split at h
     · rename_i h9
       rw [if_pos h9]
       rw [h9] at h ⊢
       exact record_sh hs0 hl h
     rename_i h9
     rw [if_neg h9]
     split at h
     · rename_i h10
       rw [if_pos h10]
       rw [h10] at h ⊢
       exact enum_sh hl h
     · rename_i h10
       rw [if_neg h10]
       have h14 : q0p w = 14 := by
        simp only [q00, Bool.or_eq_true, beq_iff_eq] at hnk
        omega
       rw [h14] at h ⊢
       exact fixed_sh hl h
 · rename_i hnk
   rw [if_neg hnk]
   exact word_sh hl h
theorem j5r : ∀ d, ShB (q1s d) (q1s d)
 | 0 => fun hs j a new k _ h => by rw [q1s] at h; simp at h
 | d + 1 => fun hs j a new k hl h => by
   rw [q1s] at h ⊢
   simp only [] at h ⊢
   split at h
   · rename_i h4
     rw [if_pos h4]
     exact word_sh hl h
   rename_i h4
   rw [if_neg h4]
   split at h
   · rename_i h5
     rw [if_pos h5]
     exact union_sh (q7h d) (j5r d) hl h
   rename_i h5
   rw [if_neg h5]
   split at h
   · rename_i h6
     rw [if_pos h6]
     exact object_sh (j5r d) hl h
   · simp at h

def q5z (s : ST) : Bool := (List.range s.nodes.length).any fun i => decide (1000 < wOf s.nodes i)
noncomputable def q2l (j : JT) : ST × Int := match q3d j with
 | .error e => (⟨[], 0⟩, e)
 | .ok s => if q5z s = true then (⟨[], 0⟩, 3) else (s, 0)
theorem j8s {s : ST} (h : q5z s = false) : ∀ i, i < s.nodes.length → wOf s.nodes i ≤ 1000 := fun i hi => by
 unfold q5z at h
 rw [List.any_eq_false] at h
 have := h i (List.mem_range.2 hi)
 simpa using this
theorem heavy_of {s : ST} (h : ∀ i, i < s.nodes.length → wOf s.nodes i ≤ 1000) : q5z s = false := by
 unfold q5z
 rw [List.any_eq_false]
 intro i hi
 have := h i (List.mem_range.1 hi)
 simpa using this
/-! A refusal has a number. -/
theorem j2n {j : JT} {key : List UInt8} {e : Int} (h : q6i j key = .error e) : e = 30 := by
 unfold q6i at h
 repeat' split at h
 all_goals simp_all
theorem tlB_err : ∀ {l : List JT} {e : Int}, tlB l = .error e → e = 30
 | [], e, h => by simp [tlB] at h
 | x :: xs, e, h => by
   rw [tlB] at h
   split at h
   · split at h
     · simp at h
     · rename_i e' he
       injection h with h
       subst h
       exact tlB_err he
   · injection h with h
     exact h.symm
theorem j9e {x : JT} {e : Int} (h : q53 x = .error e) : e ≠ 0 := by
 unfold q53 at h
 split at h
 · injection h with h; omega
 · split at h
   · split at h
     · injection h with h; omega
     · simp at h
   · rename_i e' he
     injection h with h
     have := tlB_err he
     omega
theorem j9p {full : List UInt8 → Option (List UInt8)} : ∀ {l : List (List UInt8)} {e : Int}, mapB full l = .error e → e = 31
 | [], e, h => by simp [mapB] at h
 | x :: xs, e, h => by
   rw [mapB] at h
   split at h
   · injection h with h
     exact h.symm
   · split at h
     · simp at h
     · rename_i e' he
       injection h with h
       subst h
       exact j9p he
theorem j63 {full : List UInt8 → Option (List UInt8)} {j : JT} {e : Int} (h : q5t full j = .error e) : e ≠ 0 := by
 unfold q5t at h
 split at h
 · simp at h
 · split at h
   · have := j9p h
     omega
   · rename_i e' he
     injection h with h
     subst h
     exact j9e he
theorem j3d {hs : List HN} {n : NT} {e : Int} (h : q3q hs n = .error e) : e ≠ 0 := by
 unfold q3q at h
 split at h
 · injection h with h; omega
 · simp at h
theorem z1y {hs : List HN} {w a : List UInt8} {e : Int} (h : q3y hs w a = .error e) : e ≠ 0 := by
 unfold q3y at h
 split at h
 · exact j3d h
 · split at h
   · injection h with h; omega
   · split at h
     · injection h with h; omega
     · simp at h
theorem headB_err {hs : List HN} {j : JT} {k : Int} {a : List UInt8} {e : Int} (h : q4k hs j k a = .error e) : e ≠ 0 := by
 unfold q4k at h
 split at h
 · rename_i e' he
   injection h with h
   have := j2n he
   omega
 split at h
 · rename_i e' he
   injection h with h
   subst h
   unfold j38 at he
   split at he
   · simp at he
   · have := j2n he
     omega
 split at h
 · injection h with h; omega
 split at h
 · injection h with h; omega
 split at h
 · injection h with h; omega
 split at h
 · rename_i e' he
   injection h with h
   subst h
   exact j63 he
 · simp at h
theorem z3h {x : JT} {l : List FT} {e : Int} (h : q4s x l = .error e) : e ≠ 0 := by
 unfold q4s at h
 split at h
 · injection h with h; omega
 split at h
 · rename_i e' he
   injection h with h
   have := j2n he
   omega
 split at h
 · injection h with h; omega
 split at h
 · injection h with h; omega
 split at h
 · rename_i e' he
   injection h with h
   subst h
   exact j63 he
 split at h
 · injection h with h; omega
 · simp at h
def ErrB (f : q1e) : Prop := ∀ hs j a e, f hs j a = .error e → e ≠ 0
theorem z1h {f : q1e} (hf : ErrB f) {hs : List HN} {a : List UInt8} : ∀ {xs : List JT} {ks : List Int} {new : List NT} {e : Int}, q14 f hs a xs ks new = .error e → e ≠ 0
 | [], ks, new, e, h => by simp [q14] at h
 | x :: xs, ks, new, e, h => by
   rw [q14] at h
   split at h
   · rename_i e' he
     injection h with h
     subst h
     exact hf _ _ _ _ he
   · split at h
     · exact z1h hf h
     · injection h with h; omega
theorem j75 {f : q1e} (hf : ErrB f) {hs : List HN} {a : List UInt8} : ∀ {xs : List JT} {fs : List FT} {new : List NT} {e : Int}, q18 f hs a xs fs new = .error e → e ≠ 0
 | [], ks, new, e, h => by simp [q18] at h
 | x :: xs, ks, new, e, h => by
   rw [q18] at h
   split at h
   · rename_i e' he
     injection h with h
     subst h
     exact z3h he
   · split at h
     · rename_i e' he
       injection h with h
       subst h
       exact hf _ _ _ _ he
     · exact j75 hf h
theorem z07 : ∀ {l done : List (List UInt8)} {e : Int}, q5l done l = .error e → e ≠ 0
 | [], done, e, h => by simp [q5l] at h
 | x :: xs, done, e, h => by
   rw [q5l] at h
   split at h
   · injection h with h; omega
   split at h
   · injection h with h; omega
   · exact z07 h
theorem j9u : ∀ d, ErrB (q1s d)
 | 0 => fun hs j a e h => by rw [q1s] at h; injection h with h; omega
 | d + 1 => fun hs j a e h => by
   have ih := j9u d
   rw [j5t] at h
   split at h
   · exact z1y h
   split at h
   · unfold q3x at h
     split at h
     · injection h with h; omega
     split at h
     · injection h with h; omega
     split at h
     · rename_i e' he
       injection h with h
       subst h
       exact z1h ih he
     · simp at h
   split at h
   · have hm : ∀ kd key, q3f (q1s d) hs j kd key a = .error e → e ≠ 0 := fun kd key h => by
      unfold q3f at h
      split at h
      · injection h with h; omega
      split at h
      · injection h with h; omega
      split at h
      · rename_i e' he
        injection h with h
        subst h
        exact ih _ _ _ _ he
      · simp at h
     unfold q38 at h
     split at h
     · rename_i e' he
       injection h with h
       have := j2n he
       omega
     split at h
     · exact hm _ _ h
     split at h
     · exact hm _ _ h
     split at h
     · split at h
       · rename_i e' he
         injection h with h
         subst h
         exact headB_err he
       split at h
       · unfold q32 at h
         split at h
         · injection h with h; omega
         split at h
         · injection h with h; omega
         split at h
         · injection h with h; omega
         split at h
         · rename_i e' he
           injection h with h
           subst h
           exact j75 ih he
         · simp at h
       split at h
       · unfold q4r at h
         split at h
         · rename_i e' he
           injection h with h
           subst h
           exact j9e he
         split at h
         · injection h with h; omega
         split at h
         · rename_i e' he
           injection h with h
           subst h
           exact z07 he
         split at h
         · exact j3d h
         split at h
         · rename_i e' he
           injection h with h
           have := j2n he
           omega
         split at h
         · exact j3d h
         · injection h with h; omega
       · unfold q45 at h
         split at h
         · injection h with h; omega
         split at h
         · injection h with h; omega
         · exact j3d h
     · exact z1y h
   · injection h with h; omega
theorem z24 {j : JT} {e : Int} (h : q3d j = .error e) : e ≠ 0 := by
 unfold q3d at h
 split at h
 · split at h
   · rename_i e' he
     injection h with h
     subst h
     exact j9u 33 _ _ _ _ he
   · simp at h
 · injection h with h; omega
theorem j4k {j : JT} {s : ST} (h : q2l j = (s, 0)) : q3d j = .ok s ∧ q5z s = false := by
 unfold q2l at h
 split at h
 · rename_i e he
   exact absurd (Prod.mk.inj h).2 (z24 he)
 · rename_i t ht
   split at h
   · exact absurd (Prod.mk.inj h).2 (by decide)
   · rename_i hh
     obtain rfl := (Prod.mk.inj h).1
     exact ⟨ht, by simpa using hh⟩
theorem buildM_no {j : JT} (h : (q2l j).2 ≠ 0) : (q2l j).1 = ⟨[], 0⟩ := by
 unfold q2l at h ⊢
 split
 · rfl
 · rename_i s hs
   rw [hs] at h
   simp only [] at h
   split
   · rfl
   · rename_i hh
     rw [if_neg hh] at h
     exact absurd rfl h
/-! A union of one. -/
def un1 : NT := { q1d 13 with branches := [1] }
theorem one_deep (j : JT) : q1o (q20 [j]) = q1o j + 1 := by
 rw [q20, q1o, if_pos (.inl rfl), q2r, q2r]
 omega
theorem j90 (j : JT) : jR (q20 [j]) = (decide (q1o j ≤ 31) && q49 j) := by
 rw [q7c, one_deep]
 have h1 : q49 (q20 [j]) = q49 j := by
  rw [q20, q49, q6d, q6d]
  have : rfail (.mk 5 0 [] [] [j]) = false := by simp [rfail, z0o]
  rw [this]
  simp
 rw [h1]
 congr 1
 exact decide_eq_decide.2 (by omega)
theorem z43 {j : JT} {s : ST} (h : q3d j = .ok s) (hd : q1o j ≤ 31) :
  q3d (q20 [j]) = if s.nodes.length + 1 ≤ 200 then (if q2c s.nodes 0 = 13 then .error 34 else .ok ⟨un1 :: s.nodes.map shN, 0⟩) else .error 3 := by
 unfold q3d at h
 split at h
 · rename_i hjr
   split at h
   · simp at h
   · rename_i ns k hn
     injection h with h
     subst h
     have hk : k = 0 := by
      rcases q7h 33 [] j [] ns k (by simp) hn with ⟨_, h1, h2, _⟩ | ⟨h1, _⟩
      · simp at h2; omega
      · simpa using h1
     subst hk
     rw [j9v 32 [] j [] (by omega)] at hn
     have hs := j5r 32 [] j [] ns 0 (by simp) hn
     simp only [List.length_nil, Nat.zero_add] at hs
     rw [q7c, Bool.and_eq_true] at hjr
     have hr : jR (q20 [j]) = true := by rw [j90, hjr.2]; simp [hd]
     have hu : q1s 33 [] (q20 [j]) [] = q3x (q1s 32) [] [j] [] := rfl
     unfold q3d
     rw [if_pos hr, hu, q3x, if_neg (by simp), if_neg (by simp)]
     rw [show ([] : List HN) ++ [(13, [])] = [u0] from rfl, q14, show [u0] ++ ([] : List NT).map q0k = [u0] from rfl, hs]
     by_cases hl : ns.length + 1 ≤ 200
     · rw [if_pos hl, if_pos hl]
       simp only []
       have hb : q4q ([u0] ++ ([] ++ ns.map shN).map q0k) [] (0 + 1) = (q2c ns 0 != 13) := by
        rw [List.nil_append, j2l, List.singleton_append]
        have := j7i (ns.map q0k) (ks := []) (k := 0) (Int.le_refl _) (by simp)
        rw [List.map_nil] at this
        rw [this]
        unfold q4q
        rw [kindH_of]
        simp
       rw [hb]
       by_cases h13 : q2c ns 0 = 13
       · rw [h13, if_neg (by decide), if_pos rfl]
       · rw [if_pos (by simpa using h13), if_neg h13, q14]
         rfl
     · rw [if_neg hl, if_neg hl]
 · simp at h
theorem j8d {ns : List NT} (p : Nat) : q2e (un1 :: ns.map shN) (p + 1) = (q2e ns p).map shF := by
 unfold q2e
 rw [List.getElem?_cons_succ, List.getElem?_map]
 cases ns[p]? with
 | none => rfl
 | some n =>
   simp only [Option.map_some]
   have e1 : (shN n).kind = n.kind := rfl
   rw [e1]
   split
   · rfl
   · rfl
theorem j3v {s : ST} (hO : q27 s = true) (p : Nat) : ∀ x ∈ q2e s.nodes p, 0 ≤ x.type ∧ x.type.toNat < s.nodes.length := by
 intro x hx
 unfold q2e at hx
 split at hx
 · rename_i n hn
   split at hx
   · rename_i h9
     have := j3u hO n (List.mem_of_getElem? hn) x.type (by unfold q2g; rw [if_pos h9]; exact List.mem_map.2 ⟨x, hx, rfl⟩)
     omega
   · simp at hx
 · simp at hx
theorem j8m (G : Nat → Int) : ∀ (xs : List FT), (∀ x ∈ xs, 0 ≤ x.type) → ∀ n, q3p (fun p => match p with | 0 => 1 | p + 1 => G p) (xs.map shF) n = q3p G xs n
 | [], _, n => rfl
 | x :: xs, h, n => by
   have hx := h x (by simp)
   rw [List.map_cons, q3p, q3p, j8m G xs (fun y hy => h y (by simp [hy]))]
   have e : (shF x).type.toNat = x.type.toNat + 1 := by
    change (x.type + 1).toNat = _
    omega
   rw [e]
theorem heavy_sh {s : ST} (hO : q27 s = true) (hO2 : q27 ⟨un1 :: s.nodes.map shN, 0⟩ = true) (h : q5z s = false) : q5z ⟨un1 :: s.nodes.map shN, 0⟩ = false := by
 have hr := fun p x hx => (j3v hO p x hx).2
 obtain ⟨G, hG⟩ := exG s.nodes hr
 have hr2 := fun p x hx => (j3v hO2 p x hx).2
 have hG2 : IsG (un1 :: s.nodes.map shN) (fun p => match p with | 0 => 1 | p + 1 => G p) := by
  refine ⟨fun p => ?_, fun p hp => ?_, fun S hS q hq => ?_⟩
  · cases p with
    | zero => exact ⟨show (1 : Int) ≤ 1 by decide, show (1 : Int) ≤ 1001 by decide⟩
    | succ p => exact hG.range p
  · cases p with
    | zero => rfl
    | succ p =>
      rw [j8d, j8m G _ fun x hx => (j3v hO p x hx).1]
      simp only []
      exact hG.fix p (by simpa using hp)
  · cases q with
    | zero =>
      obtain ⟨x, hx, _⟩ := hS 0 hq
      have : q2e (un1 :: s.nodes.map shN) 0 = [] := rfl
      rw [this] at hx
      simp at hx
    | succ q =>
      refine hG.top (fun q => S (q + 1)) (fun q hq => ?_) q hq
      obtain ⟨x, hx, hx2⟩ := hS (q + 1) hq
      rw [j8d] at hx
      obtain ⟨y, hy, rfl⟩ := List.mem_map.1 hx
      have := (j3v hO q y hy).1
      refine ⟨y, hy, ?_⟩
      have e : (shF y).type.toNat = y.type.toNat + 1 := by
       change (y.type + 1).toNat = _
       omega
      rw [e] at hx2
      exact hx2
 refine heavy_of fun i hi => ?_
 simp only [] at hi
 rw [wOf_G hG2 hr2 hi]
 cases i with
 | zero => exact show (1 : Int) ≤ 1000 by decide
 | succ i =>
   have hi2 : i < s.nodes.length := by simpa using hi
   have := j8s h i hi2
   rw [wOf_G hG hr hi2] at this
   exact this
theorem z23 {j : JT} {s : ST} (h : q2l j = (s, 0)) :
  (q1o j = 32 ∧ q2l (q20 [j]) = (⟨[], 0⟩, 2)) ∨ (s.nodes.length = 200 ∧ q2l (q20 [j]) = (⟨[], 0⟩, 3)) ∨ (q2c s.nodes 0 = 13 ∧ q2l (q20 [j]) = (⟨[], 0⟩, 34)) ∨
  (q2c s.nodes 0 ≠ 13 ∧ q2l (q20 [j]) = (⟨un1 :: s.nodes.map shN, 0⟩, 0)) := by
 obtain ⟨h1, h2⟩ := j4k h
 have hO := q71 h1
 have hjr : jR j = true := by
  unfold q3d at h1
  split at h1
  · assumption
  · simp at h1
 rw [q7c, Bool.and_eq_true, decide_eq_true_eq] at hjr
 by_cases hd : q1o j = 32
 · refine .inl ⟨hd, ?_⟩
   have : jR (q20 [j]) = false := by rw [j90]; simp; omega
   unfold q2l q3d
   rw [this]
   rfl
 have hu := z43 h1 (by omega)
 have hlen : s.nodes.length ≤ 200 := by
  unfold q27 at hO
  simp only [Bool.and_eq_true, decide_eq_true_eq] at hO
  exact hO.2.1
 by_cases hl : s.nodes.length + 1 ≤ 200
 · rw [if_pos hl] at hu
   by_cases h13 : q2c s.nodes 0 = 13
   · rw [if_pos h13] at hu
     exact .inr (.inr (.inl ⟨h13, by unfold q2l; rw [hu]⟩))
   · rw [if_neg h13] at hu
     have hh := heavy_sh hO (q71 hu) h2
     refine .inr (.inr (.inr ⟨h13, ?_⟩))
     unfold q2l
     rw [hu]
     simp only []
     rw [if_neg (by rw [hh]; decide)]
 · rw [if_neg hl] at hu
   exact .inr (.inl ⟨by omega, by unfold q2l; rw [hu]⟩)
theorem z22 {j : JT} {s : ST} (h : q2l j = (s, 0)) : q7k s = true := by
 obtain ⟨h1, h2⟩ := j4k h
 exact (z25 h1).2 (j8s h2)

theorem f30 {b : Bool} {c : Int} : fl 30 b c = 30 := q1p 30 _ _ (by decide)
theorem f31 {b : Bool} {c : Int} : fl 31 b c = 31 := q1p 31 _ _ (by decide)
theorem f36 {b : Bool} {c : Int} : fl 36 b c = 36 := q1p 36 _ _ (by decide)
theorem f3 {b : Bool} {c : Int} : fl 3 b c = 3 := q1p 3 _ _ (by decide)
theorem al30 {j : JT} {ok : List UInt8 → Bool} : q3t 30 j ok = 30 := q5u (by decide) _ _
theorem al31 {j : JT} {ok : List UInt8 → Bool} : q3t 31 j ok = 31 := q5u (by decide) _ _
theorem al36 {j : JT} {ok : List UInt8 → Bool} : q3t 36 j ok = 36 := q5u (by decide) _ _
theorem mk_err {α : Type} {e e' : Int} (h : e' = e) (he : e ≠ 0) (x : α) : mk e' x = .error e := by
 rw [h]
 exact q13 he x
theorem fieldB_eq (x : JT) (fs : List FT) : q4s x fs = mk (q5j 0 x fs) (q8h x) := by
 unfold q4s q5j q68 q8h
 by_cases hk : x.kd ≠ 6
 · rw [if_pos hk, show (x.kd != 6) = true by simpa using hk]
   simp only [fl_t, f30, al30]
   rfl
 rw [if_neg hk, show (x.kd != 6) = false by simpa using hk, fl_f, j2m]
 by_cases h1 : fl 0 ((gt x q05).kd != 4) 30 = 0
 rotate_left
 · rw [q13 h1, q1p _ _ _ h1, q1p _ _ _ h1, q5u h1, q1p _ _ _ h1, q13 h1]
 rw [h1, q21]
 simp only []
 by_cases hs : q1b (gt x q05).txt = false
 · rw [if_pos hs, hs, Bool.not_false]
   simp only [fl_t, f31, al31]
   rfl
 rw [if_neg hs, show q1b (gt x q05).txt = true by simpa using hs, Bool.not_true, fl_f]
 by_cases ha : (fs.any fun f => f.name == (gt x q05).txt) = true
 · rw [if_pos ha, ha]
   simp only [fl_t, f36, al36]
   rfl
 rw [if_neg ha, show (fs.any fun f => f.name == (gt x q05).txt) = false by simpa using ha, fl_f]
 rw [j62 (v := id) (ok := q1b) (fun s t h => by
  unfold q88 at h
  split at h
  · exact Option.some.inj h
  · simp at h) (fun s => by unfold q88; split <;> simp_all)]
 by_cases h5 : q3t 0 x q1b = 0
 rotate_left
 · rw [q13 h5, q1p _ _ _ h5, q13 h5]
 rw [h5, q21]
 simp only []
 cases ht : jget x q0o with
 | none => rfl
 | some t => rfl
theorem q9a {e : Int} (he : e ≠ 0) : ∀ (l done : List (List UInt8)), symE e done l = e
 | [], done => rfl
 | s :: l, done => by rw [symE, q1p _ _ _ he, q1p _ _ _ he, q9a he l]
theorem z06 : ∀ (l done : List (List UInt8)), q5l done l = mk (symE 0 done l) ()
 | [], done => rfl
 | s :: l, done => by
   rw [q5l, symE]
   by_cases hs : q1b s = false
   · rw [if_pos hs, hs, Bool.not_false]
     simp only [fl_t, f31]
     rw [q9a (by decide)]
     rfl
   · rw [if_neg hs, show q1b s = true by simpa using hs, Bool.not_true, fl_f]
     by_cases hd : s ∈ done
     · rw [if_pos hd, show done.contains s = true by simpa using hd, fl_t, q9a (by decide)]
       rfl
     · rw [if_neg hd, show done.contains s = false by simpa using hd, fl_f]
       exact z06 l (done ++ [s])
theorem enumV_no {hs : List HN} {e : Int} (he : e ≠ 0) (j : JT) (n : NT) : q5w hs e j n = ([], 0, e) := by
 unfold q5w q5m
 rw [z1c he, q1p _ _ _ he, q9a he, q1p _ _ _ he, q1p _ _ _ he]
 split <;> exact q7a he _
theorem j4w {hs : List HN} {j : JT} {n : NT} {e : Int} (h : q5m 0 (gt j q1y) = e) (he : e ≠ 0) : q5w hs 0 j n = ([], 0, e) := by
 unfold q5w
 rw [h, q1p _ _ _ he, q1p _ _ _ he]
 split <;> exact q7a he _
theorem enum_rel (hs : List HN) (j : JT) (n : NT) (hn : n.has = false) : BRel (q5w hs 0 j n) (q4r hs j n) := by
 unfold BRel q4r
 rw [show (jget j q1y).getD q2b = gt j q1y from rfl, j9d]
 by_cases h1 : q4e 0 (gt j q1y) = 0
 rotate_left
 · have hS : q5m 0 (gt j q1y) = q4e 0 (gt j q1y) := by
    unfold q5m
    rw [q1p _ _ _ h1, q9a h1]
   rw [q13 h1, j4w hS h1]
   exact (q13 h1 _).symm
 rw [h1, q21]
 simp only []
 have hlen : ((gt j q1y).its.map JT.txt = []) ↔ ((gt j q1y).its.length : Int) = 0 := by
  rw [List.map_eq_nil_iff, ← List.length_eq_zero_iff]
  omega
 by_cases h2 : (gt j q1y).its.map JT.txt = []
 · have hS : q5m 0 (gt j q1y) = 30 := by
    unfold q5m
    rw [h1, show decide (((gt j q1y).its.length : Int) = 0) = true from decide_eq_true (hlen.1 h2), fl_t, q9a (by decide)]
   rw [if_pos h2, j4w hS (by decide)]
   rfl
 have hS : q5m 0 (gt j q1y) = symE 0 [] ((gt j q1y).its.map JT.txt) := by
  unfold q5m
  rw [h1, show decide (((gt j q1y).its.length : Int) = 0) = false from decide_eq_false fun h => h2 (hlen.2 h), fl_f]
 rw [if_neg h2, z06]
 by_cases h3 : symE 0 [] ((gt j q1y).its.map JT.txt) = 0
 rotate_left
 · rw [q13 h3, j4w hS h3]
   exact (q13 h3 _).symm
 rw [h3] at hS
 rw [h3, q21]
 simp only []
 unfold q5w
 rw [hS]
 cases hd : jget j q17 with
 | none =>
   rw [Option.isSome_none, if_neg (by simp)]
   obtain ⟨n1, n2, n3, n4, n5, n6, n7, n8, n9, n10⟩ := n
   simp only [] at hn
   subst hn
   exact j3c hs _
 | some w =>
   rw [Option.isSome_some, if_pos rfl]
   simp only [j2m]
   by_cases h4 : fl 0 ((gt j q17).kd != 4) 30 = 0
   rotate_left
   · rw [q13 h4, q1p _ _ _ h4, q7a h4]
     exact (q13 h4 _).symm
   rw [h4, q21]
   simp only []
   by_cases h5 : (gt j q17).txt ∈ (gt j q1y).its.map JT.txt
   · rw [if_pos h5, show ((gt j q1y).its.map JT.txt).contains (gt j q17).txt = true by simpa using h5, Bool.not_true, fl_f]
     exact j3c hs _
   · rw [if_neg h5, show ((gt j q1y).its.map JT.txt).contains (gt j q17).txt = false by simpa using h5, Bool.not_false, fl_t, q7a (by decide)]
     rfl
section
section
variable {P : Program} {N : Nat} {Q : Exit → ASt → Prop}
theorem VC.nilH {c : Code} {t : Nat → AV} {h : Nat → Option Blkd} {n : Nat} (j o : Nat) (T : TypeId) (z : Nat) (B : Blkd) (e : List AV) (hB : h j = some B) (hrow : B.row = false) (he : B.elems = [e]) (ho : e[o]? = some (.c (.v (.slice none 0 0)))) (hn : Nat.ble (n + 1) L0 = true)
  (hv : VC P N c ⟨t, upd (upd h n (some ⟨true, T, z, []⟩)) j (some ⟨false, B.T, B.z, [e.set o (.row n 0)]⟩), n + 8⟩ Q) : VC P N c ⟨t, h, n⟩ Q := ⟨fun C a W r => by
 obtain ⟨ro, φ, r⟩ := r
 have hn := Nat.le_of_ble_eq_true hn
 have hnu : ¬ Used n n := fun hu => by unfold Used at hu; omega
 have hjn : j ≠ n := fun e => hnu (e ▸ (r.scH j B hB).1)
 have r2 : Rel C (fun j => Used n j ∨ j = n) N t (upd h n (some ⟨true, T, z, []⟩)) ro (upd φ n (.slice none 0 0)) a W :=
  r.block (W' := W) (Keeps.refl _ _) (fun b hb => by simp [q0m] at hb) (.inr hnu)
   ⟨fun i e he => by simp at he, fun e he => by simp at he, [], ⟨rfl, fun j x v hx => by simp at hx⟩, by rw [if_pos rfl, q1a]; exact World.ownsRow_nil W 0 T z⟩ (fun e he => by simp at he)
 have r3 := r2.take (used' := Used (n + 8)) fun j hj => by
  unfold Used at hj ⊢
  omega
 have hB3 : upd h n (some ⟨true, T, z, []⟩) j = some B := by rw [q1r _ _ hjn]; exact hB
 obtain ⟨b1, b2, vs, b3, b4⟩ := r3.hp j B hB3
 have helen : e.length = B.z := b1 0 e (by rw [he]; rfl)
 have hol := (List.getElem?_eq_some_iff.1 ho).1
 rw [he, List.flatten_cons, List.flatten_nil, List.append_nil] at b3
 have hg : ∀ k B', Used (n + 8) k → upd (upd h n (some ⟨true, T, z, []⟩)) j (some ⟨false, B.T, B.z, [e.set o (.row n 0)]⟩) k = some B' → ∃ B0, upd h n (some ⟨true, T, z, []⟩) k = some B0 ∧ (B0.len < B'.len ∨ (B0.len = B'.len ∧ B0.z = B'.z ∧ upd (upd φ n (.slice none 0 0)) j (upd φ n (.slice none 0 0) j) k = upd φ n (.slice none 0 0) k)) := by
  intro k B' hk hB'
  by_cases hkj : k = j
  · subst hkj
    rw [q1a] at hB'
    obtain rfl := Option.some.inj hB'
    exact ⟨B, hB3, .inr ⟨by unfold Blkd.len; rw [he]; rfl, rfl, by rw [q1a]⟩⟩
  · rw [q1r _ _ hkj] at hB'
    exact ⟨B', hB', .inr ⟨rfl, rfl, q1r _ _ hkj⟩⟩
 have hnew : ∀ (i : Nat) (x : AV), (e.set o (.row n 0))[i]? = some x → (i = o ∧ x = .row n 0) ∨ (i ≠ o ∧ e[i]? = some x) := by
  intro i x hx
  by_cases hio : i = o
  · subst hio
    rw [List.getElem?_set_self hol] at hx
    exact .inl ⟨rfl, (Option.some.inj hx).symm⟩
  · rw [List.getElem?_set_ne (fun e => hio e.symm)] at hx
    exact .inr ⟨hio, hx⟩
 have hrow0 : ∀ v : Value, v = .slice none 0 0 → Rep W ro (upd (upd φ n (.slice none 0 0)) j (upd φ n (.slice none 0 0) j)) (upd (upd h n (some ⟨true, T, z, []⟩)) j (some ⟨false, B.T, B.z, [e.set o (.row n 0)]⟩)) (.row n 0) v := by
  rintro v rfl
  refine .row rfl fun B' hB' _ => ?_
  rw [q1r _ _ (fun e => hjn e.symm), q1a]
 have hscn : Sc (fun k => Used (n + 8) k ∨ k = j) (upd (upd h n (some ⟨true, T, z, []⟩)) j (some ⟨false, B.T, B.z, [e.set o (.row n 0)]⟩)) (.row n 0) := by
  refine .row (.inl (by unfold Used; omega)) fun B' hB' => Nat.zero_le _
 have r4 := r3.block (W' := W) (ℓ := j) (B := ⟨false, B.T, B.z, [e.set o (.row n 0)]⟩) (v := upd φ n (.slice none 0 0) j) (Keeps.refl _ _) (fun b hb => .inr ⟨B, hB3, hb⟩)
  (.inl ⟨B, hB3, .inr ⟨by unfold Blkd.len; rw [he]; rfl, rfl, rfl⟩⟩)
  ⟨fun i e' he' => by
    match i, he' with
    | 0, he' => obtain rfl := Option.some.inj he'; simpa using helen,
   fun e' he' x hx => by
    obtain rfl := List.mem_singleton.1 he'
    obtain ⟨i, hi, hxi⟩ := List.getElem_of_mem hx
    rcases hnew i x (by rw [List.getElem?_eq_getElem hi, hxi]) with ⟨_, rfl⟩ | ⟨_, h5⟩
    · rfl
    · exact b2 e (by rw [he]; exact List.mem_singleton.2 rfl) x (List.mem_of_getElem? h5),
   vs, by
    refine ⟨by simpa using b3.1, fun i x v hx hvv => ?_⟩
    simp only [List.flatten_cons, List.flatten_nil, List.append_nil] at hx
    rcases hnew i x hx with ⟨rfl, rfl⟩ | ⟨_, h5⟩
    · exact hrow0 v (q1u (b3.2 i _ v ho hvv))
    · exact (b3.2 i x v h5 hvv).map ((r3.scH j B hB3).2 e (by rw [he]; exact List.mem_singleton.2 rfl) x (List.mem_of_getElem? h5)) (fun _ _ => rfl) (fun _ h => h) hg, by
    rw [if_neg (by simp)]
    rw [if_neg (by simp [hrow])] at b4
    rw [q1a]
    exact b4⟩
  (fun e' he' x hx => by
   obtain rfl := List.mem_singleton.1 he'
   obtain ⟨i, hi, hxi⟩ := List.getElem_of_mem hx
   rcases hnew i x (by rw [List.getElem?_eq_getElem hi, hxi]) with ⟨_, rfl⟩ | ⟨_, h5⟩
   · exact hscn
   · refine ((r3.scH j B hB3).2 e (by rw [he]; exact List.mem_singleton.2 rfl) x (List.mem_of_getElem? h5)).map (fun k hk => .inl hk) fun k B' hk hB' => ?_
     obtain ⟨B0, h6, h7⟩ := hg k B' hk hB'
     exact ⟨B0, h6, by rcases h7 with h7 | h7 <;> omega⟩)
 have r5 := r4.take (used' := Used (n + 8)) fun k hk => by
  rcases hk with hk | rfl
  · exact hk
  · have := (r.scH k B hB).1
    unfold Used at this ⊢
    simp only [] at this
    omega
 exact hv.out C a W ⟨ro, _, r5⟩⟩
end
end

theorem z2t (es : List EN) (j : JT) (hk : j.kd = 4) (a : List UInt8) (V : List NT × Int × Int) (hN : q1c 70 es 0 [strV j.txt, strV a] V) : q1c 35 es 0 [j.av, strV a] V := by
 unfold q1c strV at *
 obtain ⟨V1, V2, V3⟩ := V
 simp only [] at hN ⊢
 generalize es ++ V1.map EN.of = es' at *
 rw [JT.av_eq, q03, hk]
 generalize j.num = j2 at *
 generalize j.txt = j3 at *
 generalize j.its = j4 at *
 generalize j.keys = j5 at *
 unfold xW xN at *
 refine VC.toldXF (And.intro @q0a @q0i) j16 [] Tryz.func35 rfl Tryz.ntmps35 fun hb hbL => ?_
 clear hb hbL
 refine q06 (And.intro @q0a @q0b) ?_
 refine q0n (And.intro @q0a @q0b) [1000000, 1000001] (hN) ?_
 refine q0d (And.intro @q0a @q0b) ?_
 refine q09 (@q0b) Tryz.results35 ?_
 exact .c _
theorem bnode_obj (es : List EN) (j : JT) (hk : j.kd = 6) (a : List UInt8) (V : List NT × Int × Int) (hN : q1c 72 es 0 [j.av, strV a] V) : q1c 35 es 0 [j.av, strV a] V := by
 unfold q1c strV at *
 obtain ⟨V1, V2, V3⟩ := V
 simp only [] at hN ⊢
 generalize es ++ V1.map EN.of = es' at *
 rw [JT.av_eq, q03, hk] at *
 generalize j.num = j2 at *
 generalize j.txt = j3 at *
 generalize j.its = j4 at *
 generalize j.keys = j5 at *
 unfold xW xN at *
 refine VC.toldXF (And.intro @q0a @q0i) j16 [] Tryz.func35 rfl Tryz.ntmps35 fun hb hbL => ?_
 clear hb hbL
 refine q06 (And.intro @q0a @q0b) ?_
 refine q0n (And.intro @q0a @q0b) [1000000, 1000001] (hN) ?_
 refine q0d (And.intro @q0a @q0b) ?_
 refine q09 (@q0b) Tryz.results35 ?_
 exact .c _
def wtE (e : Int) (wt : Nat → Int) (n : Nat) : Int := fl e ((List.range n).any fun i => decide (1000 < wt i)) 3
theorem wtE_zero (e : Int) (wt : Nat → Int) : wtE e wt 0 = e := by
 unfold wtE fl
 split
 · rfl
 · simp; omega
theorem wtE_next (e : Int) (wt : Nat → Int) (n : Nat) : wtE e wt (n + 1) = fl (wtE e wt n) (wtE e wt n == 0 && decide (1000 < wt n)) 3 := by
 unfold wtE
 rw [List.range_succ, List.any_append]
 unfold fl
 by_cases he : e ≠ 0
 · simp [he]
 · simp only [ne_eq, Decidable.not_not] at he
   subst he
   cases ((List.range n).any fun i => decide (1000 < wt i)) <;> simp
def bldM (r : Bool) (V : List NT × Int × Int) (wt : Nat → Int) : ST × Int :=
 if r = false then (⟨[], 0⟩, 2) else if wtE V.2.2 wt V.1.length ≠ 0 then (⟨[], 0⟩, wtE V.2.2 wt V.1.length) else (⟨V.1, 0⟩, 0)
theorem j9y (l : List NT) : (l.map EN.of).map EN.cells = l.map NT.cells := by
 rw [List.map_map]
 rfl
theorem z2f (j : JT) (r : Bool) (hR : Told Tryz.prog 34 [j.av] (.c (.v (.bool r)))) (V : List NT × Int × Int) (hl : V.1.length ≤ 200) (hV : q1c 35 [] 0 [j.av, strV []] V) (wt : Nat → Int)
  (hw : ∀ i, i < V.1.length → V.2.2 = 0 → Told Tryz.prog 37 [(ST.mk V.1 0).av, .c (.v (.int .i64 (i : Int)))] (.c (.v (.int .i64 (wt i))))) :
  Told Tryz.prog 13 [j.av] (.tup [(bldM r V wt).1.av, .c (.v (.int .i64 (bldM r V wt).2))]) := by
 unfold bldM
 obtain ⟨V1, V2, V3⟩ := V
 simp only [] at hl hw ⊢
 unfold q1c strV at hV
 simp only [List.nil_append, List.length_nil, List.length_map] at hV
 rw [show str [] = ⟨#[]⟩ from rfl] at hV
 cases r with
 | false =>
   clear hV hw
   rw [if_pos rfl]
   simp only [ST.av_eq, List.map_nil]
   rw [JT.av_eq, q03] at *
   generalize j.kd = j1 at *
   generalize j.num = j2 at *
   generalize j.txt = j3 at *
   generalize j.its = j4 at *
   generalize j.keys = j5 at *
   refine VC.toldP ent_13 Tryz.func13 rfl Tryz.ntmps13 fun hb => ?_
   clear hb
   refine q0c ?_
   refine q0h (hR) ?_
   refine q1m ?_
   refine retX Tryz.results13 ?_
   exact ⟨.aggL (.cons (.nil 10) (.cons (.c _) .nil)), .c _⟩
 | true =>
   rw [if_neg (by simp)]
   have hwt : ∀ i, i < V1.length → V3 = 0 → Told Tryz.prog 37 [.agg [.c (.sl 10 (V1.map NT.cells)), .c (.v (.int .i64 0))], .c (.v (.int .i64 (i : Int)))] (.c (.v (.int .i64 (wt i)))) := fun i hi he => hw i hi he
   clear hw
   have hfin : (if wtE V3 wt V1.length ≠ 0 then ((⟨[], 0⟩ : ST), wtE V3 wt V1.length) else (⟨V1, 0⟩, 0)) = (if wtE V3 wt V1.length ≠ 0 then ((⟨[], 0⟩ : ST), wtE V3 wt V1.length) else (⟨V1, 0⟩, 0)) := rfl
   rw [JT.av_eq, q03] at *
   generalize j.kd = j1 at *
   generalize j.num = j2 at *
   generalize j.txt = j3 at *
   generalize j.its = j4 at *
   generalize j.keys = j5 at *
   unfold xW xN at hV
   refine VC.toldP ent_13 Tryz.func13 rfl Tryz.ntmps13 fun hb => ?_
   clear hb
   refine q0c ?_
   refine q0h (hR) ?_
   refine q0c ?_
   refine VC.condF (by rfl) (by trivial) ?_
   refine VC.skip ?_; refine SQ.normal ?_
   (refine VC.seq ?_; (first | refine VC.region (by rfl) (by rfl) ?_ | refine VC.draw mixP (by rfl) (by rfl) ?_); (repeat (refine AO.step fun K hK => ?_; simp only [go_sem, Int.reduceBEq, Int.reduceLE, Int.reduceLT, Int.reduceNeg, Nat.reduceAdd, Nat.reduceEqDiff, Nat.reduceLT, Nat.reduceLeDiff, Nat.reduceMul, Nat.reduceSub, reduceCtorEq, ↓reduceIte]; (first | refine q07 ?_ | refine q0g ?_ | skip); (first | refine hK _ _ _ ?_ | refine ⟨by first | omega | exact ⟨_, rfl, rfl⟩ | exact fun _ => ⟨_, rfl, rfl⟩ | (intro h; simp only [h, true_and]; omega) | (clear hK; intro h; simp_all <;> omega), hK _ _ _ ?_⟩); clear hK K)); refine AO.nil ?_; first | refine SQ.normal ?_ | refine ⟨q08 (by kernel_rfl), SQ.normal ?_⟩)
   refine VC.nilH 56 0 40 10 ⟨false, 60, 3, [[.c (.v (.slice none 0 0)), .c (.v (.int .i64 0)), .c (.v (.int .i64 0))]]⟩ [.c (.v (.slice none 0 0)), .c (.v (.int .i64 0)), .c (.v (.int .i64 0))] (by rfl) rfl rfl (by rfl) (by rfl) ?_
   refine q0c ?_
   refine q0n (And.intro @q0a (And.intro @q0b @q60)) [56, 72] (hV) ?_
   refine q0d (And.intro @q0a @q0b) ?_
   refine VC.loop (ι := {i : Nat // i ≤ V1.length}) (fun q => [(2, .ref 8 1 0 0), (4, .ref 56 1 0 0), (20, .c (.v (.int .i64 (V1.length : Int)))), (21, .c (.v (.int .i64 (q.1 : Int))))])
    (fun q => [(56, ⟨false, 60, 3, [[.row 72 V1.length, .c (.v (.int .i64 0)), .c (.v (.int .i64 (wtE V3 wt q.1)))]]⟩), (72, ⟨true, 40, 10, rA EN.cells (V1.map EN.of)⟩), (8, ⟨false, 30, 2, [[.c (.v (.slice none 0 0)), .c (.v (.int .i64 0))]]⟩)]) 800 (fun q => V1.length - q.1) ⟨0, Nat.zero_le _⟩ ?_ ?_
   · refine q3l (And.intro @q0a (And.intro @q0i (And.intro @q0b @wtE_zero))) ?_
     exact Nat.le_refl _
   rintro ⟨i, hi⟩
   simp only []
   refine q0d (@q0a) ?_
   refine VC.cond (by rfl) (by trivial) (fun hc => ?_) (fun hc => ?_)
   · have hlt : i < V1.length := by simp at hc; omega
     have hw1 : IntKind.i64.wrap ((i : Int) + 1) = (i : Int) + 1 := q1g (by omega) (by omega)
     have hnx := wtE_next V3 wt i
     have hF := q15 (V1.map EN.of) V1.length (by simp) (wtE V3 wt i) 3 (wtE V3 wt i == 0 && decide (1000 < wt i))
     rw [← hnx] at hF
     unfold xW xN at hF
     have hz : wtE V3 wt i = 0 → V3 = 0 := fun h => by
      apply Classical.byContradiction
      intro hv
      unfold wtE at h
      rw [q1p _ _ _ hv] at h
      exact hv h
     have hW := fun h => hwt i hlt (hz h)
     obtain ⟨e', he'⟩ : ∃ e', wtE V3 wt (i + 1) = e' := ⟨_, rfl⟩
     rw [he'] at hnx hF
     generalize wtE V3 wt i = ei at *
     by_cases h0 : ei = 0
     · replace hW := hW h0
       subst h0
       obtain ⟨bw, hbw⟩ : ∃ bw, decide (1000 < wt i) = bw := ⟨_, rfl⟩
       rw [show ((0 : Int) == 0) = true from rfl, Bool.true_and, hbw] at hF
       have hq : decide (wt i > 1000) = bw := hbw
       clear hbw hnx
       refine q0d (hq) ?_
       (refine AO.step fun K hK => ?_; simp only [go_sem, Int.reduceBEq, Int.reduceLE, Int.reduceLT, Int.reduceNeg, Nat.reduceAdd, Nat.reduceEqDiff, Nat.reduceLT, Nat.reduceLeDiff, Nat.reduceMul, Nat.reduceSub, reduceCtorEq, ↓reduceIte]; (first | refine q0g ?_ | skip))
       refine .inr (.inl ⟨_, [.agg [.c (.sl 10 (V1.map NT.cells)), .c (.v (.int .i64 0))], .c (.v (.int .i64 (i : Int)))], [72], ⟨by rfl, by rfl, fun k x z h5 h6 => ?_, by rfl, hW⟩, hK _ _ _ ?_⟩)
       · match k with
         | 0 =>
           obtain rfl := Option.some.inj h5
           obtain rfl := Option.some.inj h6
           refine View.agg rfl fun k x z h7 h8 => ?_
           match k with
           | 0 =>
             obtain rfl := Option.some.inj h7
             obtain rfl := Option.some.inj h8
             exact View.row (B := ⟨true, 40, 10, rA EN.cells (V1.map EN.of)⟩) (es := V1.map NT.cells) (by simp [q0b]) rfl (by rw [Blkd.len, q0a, List.length_map]) (by rw [q4v, j9y])
           | 1 =>
             obtain rfl := Option.some.inj h7
             obtain rfl := Option.some.inj h8
             exact .same _
           | k + 2 => simp at h7
         | 1 =>
           obtain rfl := Option.some.inj h5
           obtain rfl := Option.some.inj h6
           exact .same _
         | k + 2 => simp at h5
       clear hK K
       refine q0d (And.intro hq (And.intro @q0a @q0b)) ?_
       refine q0n (And.intro @q0a (And.intro @q0b hq)) [56, 72] (hF) ?_
       refine q0d (And.intro @q0a (And.intro @q0b hw1)) ?_
       refine .next ⟨i + 1, by omega⟩ ?_ (by simp only []; omega)
       refine q3l (And.intro @q0a (And.intro @q0i @q0b)) ?_
       exact ⟨cI (by omega), by rw [he'], Nat.le_refl _⟩
     · have hq : (ei == 0) = false := by simpa using h0
       rw [hq, Bool.false_and] at hF
       refine q0d (hq) ?_
       refine q0n (And.intro @q0a @q0b) [56, 72] (hF) ?_
       refine q0d (And.intro @q0a (And.intro @q0b hw1)) ?_
       refine .next ⟨i + 1, by omega⟩ ?_ (by simp only []; omega)
       refine q3l (And.intro @q0a (And.intro @q0i @q0b)) ?_
       exact ⟨cI (by omega), by rw [he'], Nat.le_refl _⟩
   · have he : i = V1.length := by simp at hc; omega
     subst he
     generalize wtE V3 wt V1.length = ei at *
     by_cases h0 : ei = 0
     · have hq : (ei != 0) = false := by simpa using h0
       rw [if_neg (by simp [h0])]
       refine q06 (And.intro hq @q0a) ?_
       refine retX Tryz.results13 ?_
       refine ⟨?_, .c _⟩
       rw [ST.av_eq]
       refine .aggL (.cons ?_ (.cons (.c _) .nil))
       rw [show (ST.mk V1 0).nodes.map NT.cells = (V1.map EN.of).map EN.cells from (j9y V1).symm]
       exact q6o (f := EN.cells) (T := 40) rfl (by rw [List.length_map]) rfl fun x _ => rfl
     · have hq : (ei != 0) = true := by simpa using h0
       rw [if_pos h0]
       refine q06 (And.intro hq @q0a) ?_
       refine retX Tryz.results13 ?_
       exact ⟨.aggL (.cons (.nil 10) (.cons (.c _) .nil)), .c _⟩

theorem z05 (fN : List HN → BV) (hs : List HN) : q1z fN hs 0 = fN hs := by
 unfold q1z
 rw [if_neg (by simp)]
theorem z04 (fN : List HN → BV) (hs : List HN) {e : Int} (he : e ≠ 0) : q1z fN hs e = ([], 0, e) := by
 unfold q1z
 rw [if_pos he]
theorem z0i {fN : JT → List HN → BV} {hs : List HN} {e : Int} (he : e ≠ 0) : ∀ (l : List JT) (fs : List FT) (new : List NT), (q28 fN hs l fs new e).2.2.1 = e
 | [], _, _ => rfl
 | x :: xs, _, _ => by rw [q28, if_pos he]
theorem z0g {fN : JT → List HN → BV} {hs : List HN} : ∀ (l : List JT) (fs : List FT) (new : List NT) (e : Int), (q28 fN hs l fs new e).2.2.1 = 0 → (q28 fN hs l fs new e).2.2.2 = true
 | [], _, _, _, _ => rfl
 | x :: xs, fs, new, e, h => by
   rw [q28] at h ⊢
   by_cases he : e ≠ 0
   · rw [if_pos he] at h
     exact absurd h he
   · rw [if_neg he] at h ⊢
     exact z0g xs _ _ _ h
theorem j8c {f : q1e} {fN : JT → List HN → BV} {a : List UInt8} {hs : List HN} (hf : ∀ x hs, BRel (fN x hs) (f hs x a)) : ∀ (l : List JT) (fs : List FT) (new : List NT),
  q18 f hs a l fs new = mk (q28 fN hs l fs new 0).2.2.1 ((q28 fN hs l fs new 0).1, (q28 fN hs l fs new 0).2.1)
 | [], fs, new => rfl
 | x :: xs, fs, new => by
   rw [q18, q28, if_neg (by simp), fieldB_eq]
   by_cases h1 : q5j 0 x fs = 0
   rotate_left
   · rw [q13 h1, z04 _ _ h1]
     simp only []
     exact (mk_err (z0i h1 _ _ _) h1 _).symm
   rw [h1, q21, z05]
   simp only []
   have h := hf (gt x q0o) (hs ++ new.map q0k)
   unfold BRel at h
   rw [show (jget x q0o).getD q2b = gt x q0o from rfl, h]
   generalize fN (gt x q0o) (hs ++ new.map q0k) = V
   obtain ⟨m, k, e⟩ := V
   simp only []
   by_cases he : e = 0
   · subst he
     rw [q21]
     simp only []
     exact j8c hf xs _ _
   · rw [q13 he]
     exact (mk_err (z0i he _ _ _) he _).symm
theorem unionG_no {fN : JT → List HN → BV} {hs : List HN} {e : Int} (he : e ≠ 0) : ∀ (l : List JT) (ks : List Int) (new : List NT), (q2x fN hs l ks new e).2.2.1 = e
 | [], _, _ => rfl
 | x :: xs, _, _ => by
   rw [q2x, z04 _ _ he, if_pos he]
theorem z1e {fN : JT → List HN → BV} {hs : List HN} : ∀ (l : List JT) (ks : List Int) (new : List NT) (e : Int), (q2x fN hs l ks new e).2.2.1 = 0 → (q2x fN hs l ks new e).2.2.2 = true
 | [], _, _, _, _ => rfl
 | x :: xs, ks, new, e, h => by
   rw [q2x] at h ⊢
   by_cases he : (q1z (fN x) (hs ++ new.map q0k) e).2.2 ≠ 0
   · rw [if_pos he] at h
     exact absurd h he
   · rw [if_neg he] at h ⊢
     exact z1e xs _ _ _ h
theorem j7j {f : q1e} {fN : JT → List HN → BV} {a : List UInt8} {hs : List HN} (hf : ∀ x hs, BRel (fN x hs) (f hs x a)) : ∀ (l : List JT) (ks : List Int) (new : List NT),
  q14 f hs a l ks new = mk (q2x fN hs l ks new 0).2.2.1 ((q2x fN hs l ks new 0).1, (q2x fN hs l ks new 0).2.1)
 | [], ks, new => rfl
 | x :: xs, ks, new => by
   rw [q14, q2x, z05]
   have h := hf x (hs ++ new.map q0k)
   unfold BRel at h
   rw [h]
   generalize fN x (hs ++ new.map q0k) = V
   obtain ⟨m, k, e⟩ := V
   simp only []
   by_cases he : e = 0
   · subst he
     rw [q21, if_neg (by simp)]
     simp only []
     by_cases hb : q4q (hs ++ (new ++ m).map q0k) ks k = true
     · rw [if_pos hb, if_pos hb]
       exact j7j hf xs _ _
     · rw [if_neg hb, if_neg hb]
       exact (mk_err (unionG_no (by decide) _ _ _) (by decide) _).symm
   · rw [q13 he, if_pos he]
     exact (q13 he _).symm
theorem union_rel {f : q1e} {fN : JT → List HN → BV} {a : List UInt8} (hs : List HN) (l : List JT) (hf : ∀ x hs, BRel (fN x hs) (f hs x a)) : BRel (q4o fN hs l) (q3x f hs l a) := by
 unfold BRel q3x q4o
 by_cases h1 : l.length < 1 ∨ 10 < l.length
 · rw [if_pos h1, if_pos h1]
   rfl
 rw [if_neg h1, if_neg h1]
 by_cases h2 : 200 ≤ hs.length
 · rw [if_pos h2, if_pos h2]
   rfl
 rw [if_neg h2, if_neg h2, j7j hf]
 have hend := z1e (fN := fN) (hs := hs ++ [(13, [])]) l [] [] 0
 generalize q2x fN (hs ++ [(13, [])]) l [] [] 0 = G at *
 obtain ⟨ks, new, e, b⟩ := G
 simp only [] at hend ⊢
 by_cases he : e = 0
 · subst he
   rw [q21, q21, hend rfl]
   rfl
 · rw [q13 he, q13 he]
theorem z38 {fN : JT → List HN → BV} {hs : List HN} {e : Int} (he : e ≠ 0) (j : JT) (n : NT) : q5i fN hs e j n = ([], 0, e) := by
 have h : q4n hs e j = e := by
  unfold q4n
  rw [q1p _ _ _ he, q1p _ _ _ he, q1p _ _ _ he]
 unfold q5i
 rw [h, if_pos he]
theorem fixedV_no {hs : List HN} {e : Int} (he : e ≠ 0) (j : JT) (n : NT) : q5x hs e j n = ([], 0, e) := by
 unfold q5x q8i
 rw [q1p _ _ _ he, q1p _ _ _ he, q7a he]
theorem z4b {f : q1e} {fN : JT → List HN → BV} (hs : List HN) (j : JT) (n : NT) (hf : ∀ x hs, BRel (fN x hs) (f hs x (q2f n.name))) : BRel (q5i fN hs 0 j n) (q32 f hs j n) := by
 unfold BRel q32 q5i q4n
 rw [show (jget j q0z).getD q2b = gt j q0z from rfl]
 by_cases hk : (gt j q0z).kd ≠ 5
 · rw [if_pos hk, show ((gt j q0z).kd != 5) = true by simpa using hk]
   simp only [fl_t, f30]
   rfl
 rw [if_neg hk, show ((gt j q0z).kd != 5) = false by simpa using hk, fl_f]
 by_cases hl : 40 < (gt j q0z).its.length
 · rw [if_pos hl, show decide (40 < (gt j q0z).its.length) = true from decide_eq_true hl]
   simp only [fl_t, f3]
   rfl
 rw [if_neg hl, show decide (40 < (gt j q0z).its.length) = false from decide_eq_false hl, fl_f]
 by_cases h2 : 200 ≤ hs.length
 · rw [if_pos h2, show decide (200 ≤ hs.length) = true from decide_eq_true h2]
   simp only [fl_t]
   rfl
 rw [if_neg h2, show decide (200 ≤ hs.length) = false from decide_eq_false h2, fl_f, if_neg (by simp), j8c hf]
 have hend := z0g (fN := fN) (hs := hs ++ [q0k n]) (gt j q0z).its [] [] 0
 generalize q28 fN (hs ++ [q0k n]) (gt j q0z).its [] [] 0 = G at *
 obtain ⟨fs, new, e, b⟩ := G
 simp only [] at hend ⊢
 by_cases he : e = 0
 · subst he
   rw [q21, q21, hend rfl]
   rfl
 · rw [q13 he, q13 he]
theorem j9n {f : q1e} {fV : q7t} (hf : ∀ x a hs, BRel (fV x a hs) (f hs x a)) (hs : List HN) (j : JT) (k : Int) (key a : List UInt8) : BRel (q6v fV hs j k key a) (q3f f hs j k key a) := by
 unfold BRel q3f q6v
 cases hx : jget j key with
 | none => rfl
 | some x =>
   simp only []
   unfold q6u
   by_cases h2 : 200 ≤ hs.length
   · rw [if_pos h2, if_pos h2]
     rfl
   rw [if_neg h2, if_neg h2]
   have h := hf x a (hs ++ [(k, [])])
   unfold BRel at h
   rw [h]
   generalize fV x a (hs ++ [(k, [])]) = V
   obtain ⟨m, i, e⟩ := V
   simp only []
   by_cases he : e = 0
   · subst he
     rfl
   · rw [q13 he, q13 he]
theorem z33 {f : q1e} {fV : q7t} (hf : ∀ x a hs, BRel (fV x a hs) (f hs x a)) (hs : List HN) (j : JT) (a : List UInt8) : BRel (j2g fV hs j a) (q38 f hs j a) := by
 have hr := fun e (he : e ≠ 0) => z38 (fN := fun t => fV t (q2f (q36 j 9 a).name)) (hs := hs) (e := e) he j (q36 j 9 a)
 have hb : ∀ (e : Int) (he : e ≠ 0) (V : BV), V = ([], 0, e) → BRel V (.error e) := fun e he V h => by
  subst h
  exact (q13 he _).symm
 unfold q38 j2g
 rw [j2m]
 by_cases hk : (gt j q0o).kd ≠ 4
 · rw [if_pos hk, show ((gt j q0o).kd != 4) = true by simpa using hk]
   rfl
 rw [if_neg hk, show ((gt j q0o).kd != 4) = false by simpa using hk, fl_f, q21]
 simp only []
 by_cases h11 : q0p (gt j q0o).txt = 11
 · rw [if_pos h11, if_pos h11]
   exact j9n hf hs j 11 q7u a
 rw [if_neg h11, if_neg h11]
 by_cases h12 : q0p (gt j q0o).txt = 12
 · rw [if_pos h12, if_pos h12]
   exact j9n hf hs j 12 q7v a
 rw [if_neg h12, if_neg h12, headB_eq]
 by_cases h9 : q0p (gt j q0o).txt = 9
 · rw [if_pos h9, h9, if_pos (show q00 ((9 : Nat) : Int) = true from rfl)]
   by_cases hE : q35 hs j a = 0
   · rw [hE, q21]
     simp only []
     rw [if_pos trivial]
     exact z4b hs j _ fun x hs => hf x _ hs
   · rw [q13 hE]
     exact hb _ hE _ (hr _ hE)
 rw [if_neg h9]
 by_cases h10 : q0p (gt j q0o).txt = 10
 · rw [if_pos h10, h10, if_pos (show q00 ((10 : Nat) : Int) = true from rfl)]
   by_cases hE : q35 hs j a = 0
   · rw [hE, q21]
     simp only []
     rw [if_neg (by decide), if_pos trivial]
     exact enum_rel hs j _ rfl
   · rw [q13 hE]
     exact hb _ hE _ (enumV_no hE _ _)
 rw [if_neg h10]
 by_cases h14 : q0p (gt j q0o).txt = 14
 · rw [if_pos h14, h14, if_pos (show q00 ((14 : Nat) : Int) = true from rfl)]
   by_cases hE : q35 hs j a = 0
   · rw [hE, q21]
     simp only []
     rw [if_neg (by decide), if_neg (by decide)]
     exact fixed_rel hs j _
   · rw [q13 hE]
     exact hb _ hE _ (fixedV_no hE _ _)
 rw [if_neg h14, if_neg (show ¬ q00 (q0p (gt j q0o).txt : Int) = true by simp [q00]; omega)]
 exact z12 hs _ a
theorem j3s : ∀ (d : Nat) (j : JT) (a : List UInt8) (hs : List HN), BRel (q3r d j a hs) (q1s d hs j a)
 | 0, j, a, hs => rfl
 | d + 1, j, a, hs => by
   unfold q3r q1s
   try simp only []
   by_cases h4 : j.kd = 4
   · rw [if_pos h4, if_pos h4]
     exact z12 hs _ a
   rw [if_neg h4, if_neg h4]
   by_cases h5 : j.kd = 5
   · rw [if_pos h5, if_pos h5]
     exact union_rel hs _ fun x hs => j3s d x a hs
   rw [if_neg h5, if_neg h5]
   by_cases h6 : j.kd = 6
   · rw [if_pos h6, if_pos h6]
     exact z33 (fun x a hs => j3s d x a hs) hs j a
   rw [if_neg h6, if_neg h6]
   rfl
theorem bld_eq (j : JT) : bldM (jR j) (q3r 33 j [] []) (wOf (q3r 33 j [] []).1) = q2l j := by
 unfold bldM q2l q3d
 cases hr : jR j with
 | false => rfl
 | true =>
   rw [if_neg (by simp), if_pos rfl]
   have h := j3s 33 j [] []
   unfold BRel at h
   rw [h]
   generalize q3r 33 j [] [] = V
   obtain ⟨ns, k, e⟩ := V
   simp only []
   by_cases he : e = 0
   · subst he
     rw [q21]
     simp only []
     have hw : wtE 0 (wOf ns) ns.length = fl 0 (q5z ⟨ns, 0⟩) 3 := rfl
     rw [hw]
     cases q5z ⟨ns, 0⟩ <;> rfl
   · rw [q13 he]
     simp only []
     have hw : wtE e (wOf ns) ns.length = e := q1p _ _ _ he
     rw [hw, if_pos he]

theorem q1c.co2 {f : FuncId} {es : List EN} {e : Int} {j : JT} {x y : AV} {V : BV} (h : q1c f es e [j.av, y] V) (hc : Co x y) : q1c f es e [j.av, x] V := by
 unfold q1c at *
 exact ToldM.co h (.cons (.same _) (.cons (.same _) (.cons hc .nil)))
theorem j9k (es : List EN) (hl : es.length ≤ 200) (j : JT) (k : Int) (key a : List UInt8) (f : q7t) (hK : ∀ x, jget j key = some x → KidOk a x (f x a)) :
  q1c 122 es 0 [j.av, intV k, strV key, strV a] (q6v f (hsE es) j k key a) := by
 unfold q6v
 cases hx : jget j key with
 | none => 
   have h := bmany_no es hl 0 j k key a hx
   rw [show fl 0 true 30 = 30 from rfl] at h
   unfold q1c intV strV
   simpa using h
 | some x =>
   simp only []
   have hsl : (hsE es).length = es.length := by rw [hsE, List.length_map]
   by_cases hlt : es.length < 200
   · have hN := (hK x hx).told (es ++ [EN.of (q1d k)]) (by simp; omega)
     have hh : hsE (es ++ [EN.of (q1d k)]) = hsE es ++ [(k, [])] := by
      unfold hsE
      rw [List.map_append]
      rfl
     rw [hh] at hN
     exact z2q es hlt j k key a x hx _ hN
   · have hle : es.length = 200 := by omega
     have h := bmany_big es hle j k key a x hx
     unfold q6u
     rw [if_pos (by omega)]
     unfold q1c intV strV
     rw [hle] at h ⊢
     simpa [hle] using h

theorem q29 {N : Nat} {j : JT} (h : j.sm N) : j.txt.length ≤ N ∧ j.its.length ≤ N ∧ ∀ x ∈ j.its, x.sm N := by
 cases j with
 | mk k n s ks xs =>
   unfold JT.sm at h
   exact ⟨h.1, h.2.2.2.1, fun x hx => j56 h.2.2.2.2 x hx⟩
theorem zJ_sm (N : Nat) : zJ.sm N := by
 unfold zJ JT.sm
 simp [JT.smL]
theorem q39 {N : Nat} {j : JT} (h : j.sm N) (key : List UInt8) : (gt j key).sm N := by
 unfold gt
 cases hx : jget j key with
 | none => exact zJ_sm N
 | some x => exact (q29 h).2.2 x (q8p hx).2
theorem joinM_len (sp name : List UInt8) : ((q1q sp name).getD []).length ≤ sp.length + 1 + name.length := by
 unfold q1q
 repeat' split
 all_goals simp
 all_goals omega
theorem z4n (s : List UInt8) : (q2f s).length ≤ s.length := by
 unfold q2f
 rw [List.length_take]
 omega
theorem full_len {N : Nat} {j : JT} (h : j.sm N) (a : List UInt8) : ((q2a j a).getD []).length ≤ (a.length + N) + 1 + N := by
 unfold q2a
 have h1 := (q29 (q39 h q05)).1
 have h2 := (q29 (q39 h q1t)).1
 refine Nat.le_trans (joinM_len _ _) ?_
 split <;> omega

theorem j47 {s : List UInt8} (h : q2n s = true) : s.length ≤ 100 := by
 unfold q2n at h
 rw [Bool.and_eq_true, decide_eq_true_eq] at h
 exact h.1
theorem j55 {s : List UInt8} (h : q1b s = true) : s.length ≤ 100 := by
 unfold q1b at h
 rw [Bool.and_eq_true, decide_eq_true_eq] at h
 exact h.1
theorem j80 {sp name f : List UInt8} (h : q1q sp name = some f) : f.length ≤ 100 := by
 unfold q1q at h
 split at h
 · split at h
   · obtain rfl := Option.some.inj h
     exact j47 (by assumption)
   · simp at h
 split at h
 · simp at h
 split at h
 · split at h
   · obtain rfl := Option.some.inj h
     exact j47 (by assumption)
   · simp at h
 split at h
 · obtain rfl := Option.some.inj h
   exact j47 (by assumption)
 · simp at h
theorem j9g {x : JT} {l : List (List UInt8)} (h : q53 x = .ok l) : l.length ≤ 40 := by
 unfold q53 at h
 split at h
 · simp at h
 split at h
 · split at h
   · simp at h
   · injection h with h
     subst h
     omega
 · simp at h
theorem mapB_ok {full : List UInt8 → Option (List UInt8)} (hf : ∀ s t, full s = some t → t.length ≤ 100) : ∀ {l r : List (List UInt8)}, mapB full l = .ok r → r.length = l.length ∧ ∀ t ∈ r, t.length ≤ 100
 | [], r, h => by
   rw [mapB] at h
   injection h with h
   subst h
   simp
 | s :: l, r, h => by
   rw [mapB] at h
   split at h
   · simp at h
   · rename_i t ht
     split at h
     · rename_i r2 hr
       injection h with h
       subst h
       obtain ⟨h1, h2⟩ := mapB_ok hf hr
       refine ⟨by simp [h1], fun u hu => ?_⟩
       rcases List.mem_cons.1 hu with rfl | hu
       · exact hf _ _ ht
       · exact h2 u hu
     · simp at h
theorem j64 {full : List UInt8 → Option (List UInt8)} (hf : ∀ s t, full s = some t → t.length ≤ 100) {j : JT} {r : List (List UInt8)} (h : q5t full j = .ok r) : r.length ≤ 40 ∧ ∀ t ∈ r, t.length ≤ 100 := by
 unfold q5t at h
 split at h
 · injection h with h
   subst h
   simp
 · split at h
   · rename_i l hl
     obtain ⟨h1, h2⟩ := mapB_ok hf h
     exact ⟨by rw [h1]; exact j9g hl, h2⟩
   · simp at h
theorem z09 : ∀ {l done : List (List UInt8)}, q5l done l = .ok () → ∀ s ∈ l, s.length ≤ 100
 | [], _, _ => by simp
 | s :: l, done, h => by
   rw [q5l] at h
   split at h
   · simp at h
   · rename_i hs
     split at h
     · simp at h
     · intro t ht
       rcases List.mem_cons.1 ht with rfl | ht
       · exact j55 (by simpa using hs)
       · exact z09 h t ht
def SmB (f : q1e) : Prop := ∀ hs j a new k, j.sm 1000000 → f hs j a = .ok (new, k) → ∀ n ∈ new, n.sm 1000000
theorem plain_smN (k : Int) : (q1d k).sm 1000000 := by
 simp [q1d, NT.sm]
theorem j3h {hs : List HN} {n : NT} (hn : n.sm 1000000) {new : List NT} {k : Int} (h : q3q hs n = .ok (new, k)) : ∀ n ∈ new, n.sm 1000000 := by
 unfold q3q at h
 split at h
 · simp at h
 · injection h with h
   injection h with h1 h2
   subst h1
   intro m hm
   obtain rfl := List.mem_singleton.1 hm
   exact hn
theorem word_sm {hs : List HN} {w a : List UInt8} {new : List NT} {k : Int} (h : q3y hs w a = .ok (new, k)) : ∀ n ∈ new, n.sm 1000000 := by
 unfold q3y at h
 split at h
 · exact j3h (plain_smN _) h
 · split at h
   · simp at h
   · split at h
     · simp at h
     · injection h with h
       injection h with h1 h2
       subst h1
       simp
theorem z1n {f : q1e} (hf : SmB f) {hs : List HN} {a : List UInt8} : ∀ {xs : List JT} {ks : List Int} {new : List NT} {ks' : List Int} {new' : List NT}, (∀ x ∈ xs, x.sm 1000000) → (∀ n ∈ new, n.sm 1000000) → q14 f hs a xs ks new = .ok (ks', new') → ks'.length = ks.length + xs.length ∧ ∀ n ∈ new', n.sm 1000000
 | [], ks, new, ks', new', _, hn, h => by
   rw [q14] at h
   injection h with h
   injection h with h1 h2
   subst h1 h2
   exact ⟨rfl, hn⟩
 | x :: xs, ks, new, ks', new', hx, hn, h => by
   rw [q14] at h
   split at h
   · simp at h
   · rename_i m k hk
     split at h
     · obtain ⟨h1, h2⟩ := z1n hf (fun y hy => hx y (by simp [hy])) (fun n hm => by
        rcases List.mem_append.1 hm with hm | hm
        · exact hn n hm
        · exact hf _ _ _ _ _ (hx x (by simp)) hk n hm) h
       exact ⟨by rw [h1]; simp; omega, h2⟩
     · simp at h
theorem fieldB_ok {x : JT} (hx : x.sm 1000000) {fs : List FT} {g : FT} (h : q4s x fs = .ok g) (k : Int) : FT.sm 1000000 { g with type := k } := by
 unfold q4s at h
 split at h
 · simp at h
 split at h
 · simp at h
 split at h
 · simp at h
 rename_i hs
 split at h
 · simp at h
 split at h
 · simp at h
 rename_i l hl
 split at h
 · simp at h
 · injection h with h
   subst h
   have h1 := j55 (by simpa using hs)
   obtain ⟨h2, h3⟩ := j64 (fun s t h => by
    unfold q88 at h
    split at h
    · obtain rfl := Option.some.inj h
      exact j55 (by assumption)
    · simp at h) hl
   exact ⟨by simp only []; omega, by simp only []; omega, fun y hy => by have := h3 y hy; omega, q39 hx q17⟩
theorem jget_sm {N : Nat} {j x : JT} (h : j.sm N) {key : List UInt8} (hx : jget j key = some x) : x.sm N := (q29 h).2.2 x (q8p hx).2
theorem j8b {f : q1e} (hf : SmB f) {hs : List HN} {a : List UInt8} : ∀ {xs : List JT} {fs : List FT} {new : List NT} {fs' : List FT} {new' : List NT}, (∀ x ∈ xs, x.sm 1000000) → (∀ g ∈ fs, g.sm 1000000) → (∀ n ∈ new, n.sm 1000000) → q18 f hs a xs fs new = .ok (fs', new') →
  fs'.length = fs.length + xs.length ∧ (∀ g ∈ fs', g.sm 1000000) ∧ ∀ n ∈ new', n.sm 1000000
 | [], fs, new, fs', new', _, hg, hn, h => by
   rw [q18] at h
   injection h with h
   injection h with h1 h2
   subst h1 h2
   exact ⟨rfl, hg, hn⟩
 | x :: xs, fs, new, fs', new', hx, hg, hn, h => by
   rw [q18] at h
   split at h
   · simp at h
   · rename_i g hgx
     split at h
     · simp at h
     · rename_i m k hk
       have hxs := hx x (by simp)
       obtain ⟨h1, h2, h3⟩ := j8b hf (fun y hy => hx y (by simp [hy])) (fun o ho => by
        rcases List.mem_append.1 ho with ho | ho
        · exact hg o ho
        · obtain rfl := List.mem_singleton.1 ho
          exact fieldB_ok hxs hgx k) (fun n hm => by
        rcases List.mem_append.1 hm with hm | hm
        · exact hn n hm
        · exact hf _ _ _ _ _ (q39 hxs q0o) hk n hm) h
       exact ⟨by rw [h1]; simp; omega, h2, h3⟩
theorem union_sm {f : q1e} (hf : SmB f) {hs : List HN} {l : List JT} (hl : ∀ x ∈ l, x.sm 1000000) {a : List UInt8} {new : List NT} {k : Int} (h : q3x f hs l a = .ok (new, k)) : ∀ n ∈ new, n.sm 1000000 := by
 unfold q3x at h
 split at h
 · simp at h
 split at h
 · simp at h
 split at h
 · simp at h
 · rename_i hq _ ks m hu
   injection h with h
   injection h with h1 h2
   subst h1
   obtain ⟨e1, e2⟩ := z1n hf hl (by simp) hu
   intro n hn
   rcases List.mem_cons.1 hn with rfl | hn
   · simp at e1
     simp [q1d, NT.sm]
     omega
   · exact e2 n hn
theorem many_sm {f : q1e} (hf : SmB f) {hs : List HN} {j : JT} (hj : j.sm 1000000) {kd : Int} {key a : List UInt8} {new : List NT} {k : Int} (h : q3f f hs j kd key a = .ok (new, k)) : ∀ n ∈ new, n.sm 1000000 := by
 unfold q3f at h
 split at h
 · simp at h
 rename_i x hx
 split at h
 · simp at h
 split at h
 · simp at h
 · rename_i m i hu
   injection h with h
   injection h with h1 h2
   subst h1
   intro n hn
   rcases List.mem_cons.1 hn with rfl | hn
   · simp [q1d, NT.sm]
   · exact hf _ _ _ _ _ (jget_sm hj hx) hu n hn
theorem head_sm {hs : List HN} {j : JT} {k : Int} {a : List UInt8} {n : NT} (h : q4k hs j k a = .ok n) : ∃ f l, n = ⟨k, f, l, [], [], false, [], 0, 0, []⟩ ∧ f.length ≤ 100 ∧ l.length ≤ 40 ∧ ∀ y ∈ l, y.length ≤ 100 := by
 unfold q4k at h
 split at h
 · simp at h
 split at h
 · simp at h
 split at h
 · simp at h
 rename_i f hf
 split at h
 · simp at h
 split at h
 · simp at h
 split at h
 · simp at h
 · rename_i l hl
   injection h with h
   obtain ⟨h1, h2⟩ := j64 (fun s t h => j80 h) hl
   exact ⟨_, _, h.symm, j80 hf, h1, h2⟩
theorem record_sm {f : q1e} (hf : SmB f) {hs : List HN} {j : JT} (hj : j.sm 1000000) {n : NT} (hn : n.sm 1000000) {new : List NT} {k : Int} (h : q32 f hs j n = .ok (new, k)) : ∀ n ∈ new, n.sm 1000000 := by
 unfold q32 at h
 split at h
 · simp at h
 split at h
 · simp at h
 split at h
 · simp at h
 split at h
 · simp at h
 · rename_i h40 _ _ fs m hu
   injection h with h
   injection h with h1 h2
   subst h1
   obtain ⟨e1, e2, e3⟩ := j8b hf (fun x hx => (q29 (q39 hj q0z)).2.2 x hx) (by simp) (by simp) hu
   intro o ho
   rcases List.mem_cons.1 ho with rfl | ho
   · obtain ⟨c1, c2, c3, c4, c5, c6⟩ := hn
     have e1' : fs.length = 0 + ((jget j q0z).getD q2b).its.length := e1
     exact ⟨c1, c2, c3, c4, c5, by simp only []; omega, e2⟩
   · exact e3 o ho
theorem enum_sm {hs : List HN} {j : JT} {n : NT} (hn : n.sm 1000000) {new : List NT} {k : Int} (h : q4r hs j n = .ok (new, k)) : ∀ n ∈ new, n.sm 1000000 := by
 obtain ⟨c1, c2, c3, c4, c5, c6⟩ := hn
 unfold q4r at h
 split at h
 · simp at h
 rename_i l hl
 split at h
 · simp at h
 split at h
 · simp at h
 rename_i hsy
 have hlen := j9g hl
 have hs := z09 hsy
 have h4 : l.length ≤ 1000000 ∧ ∀ y ∈ l, y.length ≤ 1000000 := ⟨by omega, fun y hy => by have := hs y hy; omega⟩
 split at h
 · refine j3h ?_ h
   exact ⟨c1, c2, c3, h4, c5, c6⟩
 split at h
 · simp at h
 split at h
 · rename_i hd
   refine j3h ?_ h
   exact ⟨c1, h4.2 _ hd, c3, h4, c5, c6⟩
 · simp at h
theorem object_sm {f : q1e} (hf : SmB f) {hs : List HN} {j : JT} (hj : j.sm 1000000) {a : List UInt8} {new : List NT} {k : Int} (h : q38 f hs j a = .ok (new, k)) : ∀ n ∈ new, n.sm 1000000 := by
 unfold q38 at h
 split at h
 · simp at h
 split at h
 · exact many_sm hf hj h
 split at h
 · exact many_sm hf hj h
 split at h
 · split at h
   · simp at h
   · rename_i n hn
     obtain ⟨nm, l, rfl, h1, h2, h3⟩ := head_sm hn
     have hs : ∀ k : Int, NT.sm 1000000 ⟨k, nm, l, [], [], false, [], 0, 0, []⟩ := fun k => ⟨by simp only []; omega, by simp, ⟨by simp only []; omega, fun y hy => by have := h3 y hy; omega⟩, by simp, by simp, by simp⟩
     split at h
     · exact record_sm hf hj (hs _) h
     split at h
     · exact enum_sm (hs _) h
     · unfold q45 at h
       split at h
       · simp at h
       split at h
       · simp at h
       · refine j3h ?_ h
         obtain ⟨c1, c2, c3, c4, c5, c6⟩ := hs 0
         exact ⟨c1, c2, c3, c4, c5, c6⟩
 · exact word_sm h
theorem j5s : ∀ d, SmB (q1s d)
 | 0 => fun hs j a new k _ h => by rw [q1s] at h; simp at h
 | d + 1 => fun hs j a new k hj h => by
   rw [q1s] at h
   simp only [] at h
   split at h
   · exact word_sm h
   split at h
   · exact union_sm (j5s d) (q29 hj).2.2 h
   split at h
   · exact object_sm (j5s d) hj h
   · simp at h
theorem j7m {j : JT} (hj : j.sm 1000000) {s : ST} (h : q3d j = .ok s) : s.sm 1000000 := by
 have hO := q71 h
 unfold q27 at hO
 rw [Bool.and_eq_true, Bool.and_eq_true, decide_eq_true_eq, decide_eq_true_eq] at hO
 unfold q3d at h
 split at h
 · split at h
   · simp at h
   · rename_i ns k hn
     injection h with h
     subst h
     refine ⟨?_, fun n hn2 => j5s 33 [] j [] ns k hj hn n hn2⟩
     have := hO.2.1
     simp only [] at this ⊢
     omega
 · simp at h

theorem gt_of {j x : JT} {key : List UInt8} (h : jget j key = some x) : gt j key = x := by unfold gt; rw [h]; rfl
theorem knode (M : Nat) (hM : M = 3000000) : ∀ (d : Nat) (j : JT) (a : List UInt8), q1o j < d → j.sm 1000000 → a.length + d * M ≤ 100000000 → KidOk a j (q3r d j a)
 | 0, j, a, h, _, _ => absurd h (Nat.not_lt_zero _)
 | d + 1, j, a, hd, hs, ha => by
   refine ⟨fun es hl => ?_, fun hs' hl => (j1y (d + 1) j a hs' hl).1, fun hs' hl => (j1y (d + 1) j a hs' hl).2⟩
   obtain ⟨p1, p2, p3⟩ := q29 hs
   rw [Nat.succ_mul] at ha
   have ha2 : a.length + d * M ≤ 100000000 := by omega
   unfold q3r
   by_cases h4 : j.kd = 4
   · rw [if_pos h4]
     exact z2t es j h4 a _ (j7g es hl j.txt a (by omega) (by omega))
   rw [if_neg h4]
   by_cases h5 : j.kd = 5
   · rw [if_pos h5]
     exact z2s es j h5 a _ (z26 es hl j.its a _ fun x hx => knode M hM d x a (by have := j2c (.inl h5) hx; omega) (p3 x hx) ha2)
   rw [if_neg h5]
   by_cases h6 : j.kd = 6
   · rw [if_pos h6]
     refine bnode_obj es j h6 a _ ?_
     unfold j2g
     by_cases ht : (gt j q0o).kd = 4
     rotate_left
     · rw [if_pos ht]
       exact z2v es hl j a (by simpa using ht)
     rw [if_neg (by simpa using ht)]
     have hfull := full_len hs a
     have hH := fun k => z2l es hl j k a (by omega) (by have := (q29 (q39 hs q05)).1; omega) (by have := (q29 (q39 hs q1t)).1; omega) (by have := (q29 (q39 hs q1f)).2.1; omega) (fun x hx => by have := (q29 ((q29 (q39 hs q1f)).2.2 x hx)).1; omega) (by omega)
     have hkid : ∀ key x, jget j key = some x → KidOk a x (q3r d x a) := fun key x hx => knode M hM d x a (by have := q8l hx; omega) (p3 x (q8p hx).2) ha2
     refine z2u es hl j a (by simpa using ht) _ (q35 (hsE es) j a) (fun k => j3j j k a) (hH _) (fun h => ?_) (fun h => ?_) (fun h => ?_) (fun h => ?_) (fun h => ?_) (fun q1 q2 q3 q4 q5 => ?_)
     · rw [if_pos h]
       exact j9k es hl j 11 q7u a (q3r d) fun x hx => hkid _ x hx
     · rw [if_neg (by omega), if_pos h]
       exact j9k es hl j 12 q7v a (q3r d) fun x hx => hkid _ x hx
     · rw [if_neg (by omega), if_neg (by omega), if_pos h]
       have hsp := z4n (q36 j 9 a).name
       have hnm : (q36 j 9 a).name = (q2a j a).getD [] := rfl
       have hfs := q29 (q39 hs q0z)
       refine z2y es hl (q35 (hsE es) j a) j (q36 j 9 a) (by rw [hnm]; omega) _ (fun h5' x hx t hxt => ?_) (fun x hx => ?_) (fun x hx => ?_) (fun x hx y hy => ?_)
       · have hxs := hfs.2.2 x hx
         have hd1 : q1o x + 1 ≤ q1o j := by
          cases hf : jget j q0z with
          | none =>
            have : gt j q0z = zJ := by unfold gt; rw [hf]; rfl
            rw [this] at hx
            simp [zJ, JT.its] at hx
          | some w =>
            rw [gt_of hf] at hx
            rw [gt_of hf] at h5'
            have h1 := j2c (.inl h5') hx
            have h2 := q8l hf
            omega
         exact knode M hM d t _ (by have := q8l hxt; omega) ((q29 hxs).2.2 t (q8p hxt).2) (by rw [hnm] at hsp ⊢; omega)
       · have := (q29 (q39 (hfs.2.2 x hx) q05)).1; omega
       · have := (q29 (q39 (hfs.2.2 x hx) q1f)).2.1; omega
       · have := (q29 ((q29 (q39 (hfs.2.2 x hx) q1f)).2.2 y hy)).1; omega
     · rw [if_neg (by omega), if_neg (by omega), if_neg (by omega), if_pos h]
       have hfs := q29 (q39 hs q1y)
       exact q1c.co2 (z2g es hl _ j (q36 j 10 a) (by omega) fun x hx => by have := (q29 (hfs.2.2 x hx)).1; omega) (j8r j 10 a)
     · rw [if_neg (by omega), if_neg (by omega), if_neg (by omega), if_neg (by omega), if_pos h]
       exact q1c.co2 (z2i es hl _ j (q36 j 14 a)) (j8r j 14 a)
     · rw [if_neg (by omega), if_neg (by omega), if_neg (by omega), if_neg (by omega), if_neg (by omega)]
       exact j7g es hl _ a (by have := (q29 (q39 hs q0o)).1; omega) (by omega)
   · rw [if_neg h6]
     exact z2r es j h4 h5 h6 a

theorem z37 {s : ST} (h : q27 s = true) : ∀ n ∈ s.nodes, n.kind = 9 → ∀ f ∈ n.fields, 0 ≤ f.type ∧ f.type < (s.nodes.length : Int) := fun n hn h9 f hf =>
 j3u h n hn f.type (by rw [q2g, if_pos h9]; exact List.mem_map.2 ⟨f, hf, rfl⟩)
end
end Go.Proofs.YthkofkaocipomaaGreatDoor
