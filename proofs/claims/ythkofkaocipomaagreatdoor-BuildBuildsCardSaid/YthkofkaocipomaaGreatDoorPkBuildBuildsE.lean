/- Texts that lead to the law BuildBuilds, joined. -/
import Derived.Test.YthkofkaocipomaaGreatDoorPkBuildBuildsD
import Derived.Test.YthkofkaocipomaaGreatDoorPkBuildBuildsC
import Derived.Test.YthkofkaocipomaaGreatDoorPkBuildBuildsB
import Derived.Test.YthkofkaocipomaaGreatDoorPkBuildBuildsA
import Derived.Test.YthkofkaocipomaaGreatDoorPkBuildBuildsXAbB
namespace Go.Proofs.YthkofkaocipomaaGreatDoor
set_option maxRecDepth 100000
set_option maxHeartbeats 6400000
open Go.RowKit
set_option linter.unusedVariables false
set_option linter.unusedSimpArgs false
section
attribute [local go_sem] opx opE ev okx q5a bnd okO AV.get AV.okb cAV q8a q83 q82 j1w q60 q8z q8y st q8h q50 q8j q8k q8i binV binI binS q4s q5j q5b q5k unV q5w q4a q3m q00 q2d Blkd.len setE grown q1r q4x q3n q26 pv q41 q3t q4o AV.cellish AV.pureL AV.pureB q8w q8m AV.ren AV.renL q85 Blkd.ren rho wrM renN q2w rhoE q4m q4t q75 q78 j1b j1e j1i j1n j1q q7i q9a q9f q9g q9l q9p q9r q9s q9t q9y q93 q98 q76 q77 j0e q7h j0j j0k j0m j0n j08 j09 j1a j1c j1d j1f j1g j1h j1j j1k j1l j1m j1o j1p j1r j1s j1t j1u j1v q9b q9c q9d q9e q9h q9i q9j q9k q9m q9n q9o q9q q9u q9v q9w q9x q9z q90 q91 q92 q94 q95 q96 q97 q99 j0a j0b j0c j0d j0f j0g j0h j0i j0l j0o j0p j0q j0r j0s j0t j0u j0v j0w j0x j0y j0z j00 j01 j02 j03 j04 j05 j06 j07 Option.map_some Option.map_none Option.getD_some Option.getD_none Option.bind_some Option.bind_none List.getElem?_cons_zero List.getElem?_cons_succ List.getElem?_nil List.getElem?_toArray List.length_cons List.length_nil List.length_map List.forall_mem_map List.map_cons List.map_nil List.drop_zero List.drop_succ_cons List.drop_nil List.take_zero List.take_succ_cons List.take_nil List.mem_cons List.not_mem_nil or_false forall_eq_or_imp forall_eq List.set_cons_zero List.set_cons_succ List.cons_append List.nil_append List.append_nil List.foldl_cons List.foldl_nil List.replicate_succ List.replicate_zero List.all_cons List.all_nil if_true if_false Bool.false_eq_true ne_eq not_false_eq_true not_true_eq_false true_and and_true and_self true_implies imp_self implies_true forall_const beq_self_eq_true Bool.and_true Bool.true_and Bool.and_false Bool.false_and Bool.or_true Bool.true_or Bool.or_false Bool.false_or Bool.not_true Bool.not_false Bool.not_eq_eq_eq_not q55 Value.oneCell' Int.toNat_natCast beq_true beq_false Bool.not_eq_true false_implies false_or true_or or_true Nat.zero_add Nat.add_zero decide_true decide_false Int.cast_ofNat_Int Int.toNat_zero Int.toNat_one eq_self

theorem q8b : (EN.of ⟨0, [], [], [], [], false, [], 0, 0, []⟩).cells = [.v (.int .i64 0), .v (.string ⟨#[]⟩), .sl 1 [], .sl 9 [], .sl 1 [], .v (.bool false), .v (.string ⟨#[]⟩), .v (.int .i64 0), .v (.int .i64 0), .sl 1 []] := rfl
theorem q8c {K : Nat → Bool} {h : Nat → Option Blkd} : Frz K h (.agg [.c (.v (.int .i64 0)), .c (.v (.string ⟨#[]⟩)), .c (.v (.slice none 0 0)), .c (.v (.slice none 0 0)), .c (.v (.slice none 0 0)), .c (.v (.bool false)), .c (.v (.string ⟨#[]⟩)), .c (.v (.int .i64 0)), .c (.v (.int .i64 0)), .c (.v (.slice none 0 0))])
  (.agg [.c (.v (.int .i64 0)), .c (.v (.string ⟨#[]⟩)), .c (.sl 1 []), .c (.sl 9 []), .c (.sl 1 []), .c (.v (.bool false)), .c (.v (.string ⟨#[]⟩)), .c (.v (.int .i64 0)), .c (.v (.int .i64 0)), .c (.sl 1 [])]) :=
 .aggL (.cons (.c _) (.cons (.c _) (.cons (.nil 1) (.cons (.nil 9) (.cons (.nil 1) (.cons (.c _) (.cons (.c _) (.cons (.c _) (.cons (.c _) (.cons (.nil 1) .nil))))))))))
theorem z59 (es : List EN) (hl : es.length ≤ 200) (j : JT) (k : Int) (a : List UInt8) (hj : j.sm 1000000) (ha : a.length ≤ 1000000) :
  ∃ m : EN, (q27 (hsE es) j a = 0 → m = j2i j k a) ∧ ToldM Tryz.prog 81 [.ref 1000000 1 0 0, j.av, .c (.v (.int .i64 k)), .c (.v (.string (str a)))] [xS es.length, xN es] [some (xS es.length), some (xN es)] (.tup [m.av, .c (.v (.int .i64 (q27 (hsE es) j a)))]) := by
 have hT1 := q5v j q0x
 have hT2 := q5v j q1d
 have hG := q4k j q1d
 rw [show (jget j q1d).getD zJ = gt j q1d from rfl] at hG
 have hfull := z0h hj a
 have hJ := j7p (if (jget j q1d).isSome = true then (gt j q1d).txt else a) (gt j q0x).txt (by have := (q17 (q2o hj q1d)).1; split <;> omega) (by have := (q17 (q2o hj q0x)).1; omega)
 rw [show q1e (if (jget j q1d).isSome = true then (gt j q1d).txt else a) (gt j q0x).txt = q1b j a from rfl] at hJ
 unfold q5c at hJ
 have hKd := q7c ((q1b j a).getD [])
 have hF := z1z es (by omega) 0 ((q1b j a).getD [])
 have hSp := j7s ((q1b j a).getD []) (by omega)
 have hA := z5v j (q17 (q2o hj q0z)).2.1 (q1n ((q1b j a).getD [])) (by have := j70 ((q1b j a).getD []); omega) (fun x hx => by have := (q17 ((q17 (q2o hj q0z)).2.2 x hx)).1; omega)
 have hN : j2i j k a = ⟨⟨k, (q1b j a).getD [], q3i j fun s => (q1e (q1n ((q1b j a).getD [])) s).getD [], [], [], false, [], 0, 0, []⟩, .v (.slice none 0 0), .sl 1 []⟩ := rfl
 obtain ⟨E, hE⟩ : ∃ E, E = q27 (hsE es) j a := ⟨_, rfl⟩
 rw [← hE]
 have hE30 : ((gt j q0x).kd == 4) = false ∨ ((jget j q1d).isSome = true ∧ ((gt j q1d).kd == 4) = false) → E = 30 := fun h => by
  rw [hE]
  have h1 : q4g j = 30 := by
   unfold q4g
   rcases h with h | ⟨h, h2⟩
   · rw [show ((gt j q0x).kd != 4) = true by simpa [bne] using h, fl_t, q1i 30 _ _ (by decide)]
     split <;> rfl
   · rw [if_pos h, show ((gt j q1d).kd != 4) = true by simpa [bne] using h2]
     cases ((gt j q0x).kd != 4) <;> rfl
  unfold q27 q5n
  rw [h1, q1i 30 _ _ (by decide), q1i 30 _ _ (by decide), q48 (by decide)]
 have hE1 : ((gt j q0x).kd == 4) = true → ((jget j q1d).isSome = true → ((gt j q1d).kd == 4) = true) → q4g j = 0 := fun h h2 => by
  unfold q4g
  rw [show ((gt j q0x).kd != 4) = false by simpa [bne] using h, fl_f]
  split
  · rename_i h3
    rw [show ((gt j q1d).kd != 4) = false by simpa [bne] using h2 h3, fl_f]
  · rfl
 have hE31' : q4g j = 0 → (q1b j a).isSome = false ∨ 0 < (q0h ((q1b j a).getD []) : Int) → E = 31 := fun h1 h => by
  rw [hE]
  unfold q27 q5n
  rw [h1, show (!(q1b j a).isSome || (q0h ((q1b j a).getD []) : Int) != 0) = true by
   rcases h with h | h
   · rw [h]; rfl
   · simp; omega, fl_t, q1i 31 _ _ (by decide), q48 (by decide)]
 have hE32' : q4g j = 0 → (q1b j a).isSome = true → (q0h ((q1b j a).getD []) : Int) = 0 → 0 ≤ q19 (hsE es) ((q1b j a).getD []) → E = 32 := fun h1 h2 h3 h4 => by
  rw [hE]
  unfold q27 q5n
  rw [h1, h2, h3, decide_eq_true h4]
  exact q48 (by decide) _ _
 have hEA' : q4g j = 0 → (q1b j a).isSome = true → (q0h ((q1b j a).getD []) : Int) = 0 → ¬ 0 ≤ q19 (hsE es) ((q1b j a).getD []) → E = q2z 0 j fun s => (q1e (q1n ((q1b j a).getD [])) s).isSome := fun h1 h2 h3 h4 => by
  rw [hE]
  unfold q27 q5n
  rw [h1, h2, h3, decide_eq_false h4]
  rfl
 clear hE hfull
 rw [hN]
 clear hN
 obtain ⟨EA, hEA0⟩ : ∃ EA, EA = q2z 0 j fun s => (q1e (q1n ((q1b j a).getD [])) s).isSome := ⟨_, rfl⟩
 obtain ⟨LA, hLA0⟩ : ∃ LA, LA = q3i j fun s => (q1e (q1n ((q1b j a).getD [])) s).getD [] := ⟨_, rfl⟩
 rw [← hEA0] at hA hEA'
 rw [← hLA0] at hA ⊢
 clear hEA0 hLA0
 generalize q4g j = e1 at *
 have hkf : 0 ≤ (q0h ((q1b j a).getD []) : Int) := by omega
 generalize (q0h ((q1b j a).getD []) : Int) = kf at *
 generalize q19 (hsE es) ((q1b j a).getD []) = at' at *
 generalize q1n ((q1b j a).getD []) = sf at *
 generalize (q1b j a).getD [] = f at *
 generalize (q1b j a).isSome = b3 at *
 generalize ((gt j q0x).kd == 4) = b1 at *
 generalize (gt j q0x).txt = nm at *
 generalize ((gt j q1d).kd == 4) = b2 at *
 generalize (jget j q1d).isSome = g at *
 generalize gt j q1d = x at *
 rw [JT.av_eq x, q0m x] at hG
 rw [JT.av_eq j, q0m j] at *
 generalize j.kd = j1 at *
 generalize j.num = j2 at *
 generalize j.txt = j3 at *
 generalize j.its = j4 at *
 generalize j.keys = j5 at *
 generalize x.kd = x1 at *
 generalize x.num = x2 at *
 generalize x.txt = x3 at *
 generalize x.its = x4 at *
 generalize x.keys = x5 at *
 rw [q0x, q2h [110, 97, 109, 101]] at hT1
 rw [q1d, q2h [110, 97, 109, 101, 115, 112, 97, 99, 101]] at hT2 hG
 have hN : (⟨⟨k, f, LA, [], [], false, [], 0, 0, []⟩, .v (.slice none 0 0), .sl 1 []⟩ : EN) = ⟨⟨k, f, LA, [], [], false, [], 0, 0, []⟩, .v (.slice none 0 0), .sl 1 []⟩ := rfl
 unfold xS xN
 cases b1 with
 | false =>
   have hE := hE30 (.inl rfl)
   refine ⟨EN.of ⟨0, [], [], [], [], false, [], 0, 0, []⟩, fun h => by rw [hE] at h; simp at h, ?_⟩
   rw [hE, EN.av_eq, q8b]
   refine VC.toldXF (And.intro @q0a @q0g) q6g [] Tryz.func81 rfl Tryz.ntmps81 fun hb hbL => ?_
   clear hb hbL
   refine q0c ?_
   refine q0e (hT1) ?_
   refine q0c ?_
   refine q0e (hT2) ?_
   refine q0c ?_
   refine q0e (hG) ?_
   refine q0f (@q0a) ?_
   refine q0j (@q0b) Tryz.results81 ?_
   exact ⟨q8c, .c _⟩
 | true =>
 cases g with
 | true =>
   cases b2 with
   | false =>
     have hE := hE30 (.inr ⟨rfl, rfl⟩)
     refine ⟨EN.of ⟨0, [], [], [], [], false, [], 0, 0, []⟩, fun h => by rw [hE] at h; simp at h, ?_⟩
     rw [hE, EN.av_eq, q8b]
     refine VC.toldXF (And.intro @q0a @q0g) q6g [] Tryz.func81 rfl Tryz.ntmps81 fun hb hbL => ?_
     clear hb hbL
     refine q0c ?_
     refine q0e (hT1) ?_
     refine q0c ?_
     refine q0e (hT2) ?_
     refine q0c ?_
     refine q0e (hG) ?_
     refine q0f (@q0a) ?_
     refine q0j (@q0b) Tryz.results81 ?_
     exact ⟨q8c, .c _⟩
   | true =>
     rw [if_pos rfl] at hJ
     have he1 := hE1 rfl fun _ => rfl
     have hE31 := hE31' he1
     have hE32 := hE32' he1
     have hEA := hEA' he1
     clear hE30 hE1 hE31' hE32' hEA'
     by_cases hk : b3 = false
     · subst hk
       have hE : E = 31 := hE31 (.inl rfl)
       refine ⟨EN.of ⟨0, [], [], [], [], false, [], 0, 0, []⟩, fun h => by rw [hE] at h; simp at h, ?_⟩
       rw [hE, EN.av_eq, q8b]
       refine VC.toldXF (And.intro @q0a @q0g) q6g [] Tryz.func81 rfl Tryz.ntmps81 fun hb hbL => ?_
       clear hb hbL
       refine q0c ?_
       refine q0e (hT1) ?_
       refine q0c ?_
       refine q0e (hT2) ?_
       refine q0c ?_
       refine q0e (hG) ?_
       refine q0f (@q0a) ?_
       refine q0e (hJ) ?_
       refine q0f (@q0a) ?_
       refine q0j (@q0b) Tryz.results81 ?_
       exact ⟨q8c, .c _⟩
     have hb3 : b3 = true := by simpa using hk
     subst hb3
     clear hk
     by_cases hk : 0 < kf
     · have hE : E = 31 := hE31 (.inr (by omega))
       have q1 : decide (kf > 0) = true := by simpa using hk
       refine ⟨EN.of ⟨0, [], [], [], [], false, [], 0, 0, []⟩, fun h => by rw [hE] at h; simp at h, ?_⟩
       rw [hE, EN.av_eq, q8b]
       refine VC.toldXF (And.intro @q0a @q0g) q6g [] Tryz.func81 rfl Tryz.ntmps81 fun hb hbL => ?_
       clear hb hbL
       refine q0c ?_
       refine q0e (hT1) ?_
       refine q0c ?_
       refine q0e (hT2) ?_
       refine q0c ?_
       refine q0e (hG) ?_
       refine q0f (@q0a) ?_
       refine q0e (hJ) ?_
       refine q0c ?_
       refine q0e (hKd) ?_
       refine q0f (And.intro @q0a q1) ?_
       refine q0j (@q0b) Tryz.results81 ?_
       exact ⟨q8c, .c _⟩
     have q1 : decide (kf > 0) = false := by simp; omega
     have hk0 : kf = 0 := by omega
     by_cases hd : 0 ≤ at'
     · have hE : E = 32 := hE32 rfl hk0 hd
       have q2 : decide (at' ≥ 0) = true := by simpa using hd
       refine ⟨EN.of ⟨0, [], [], [], [], false, [], 0, 0, []⟩, fun h => by rw [hE] at h; simp at h, ?_⟩
       rw [hE, EN.av_eq, q8b]
       refine VC.toldXF (And.intro @q0a @q0g) q6g [] Tryz.func81 rfl Tryz.ntmps81 fun hb hbL => ?_
       clear hb hbL
       refine q0c ?_
       refine q0e (hT1) ?_
       refine q0c ?_
       refine q0e (hT2) ?_
       refine q0c ?_
       refine q0e (hG) ?_
       refine q0f (@q0a) ?_
       refine q0e (hJ) ?_
       refine q0c ?_
       refine q0e (hKd) ?_
       refine q0f (And.intro @q0a q1) ?_
       (refine AO.step fun K hK => ?_; simp only [go_sem, Int.reduceBEq, Int.reduceLE, Int.reduceLT, Int.reduceNeg, Nat.reduceAdd, Nat.reduceEqDiff, Nat.reduceLT, Nat.reduceLeDiff, Nat.reduceMul, Nat.reduceSub, reduceCtorEq, ↓reduceIte]; (first | refine q1m ?_ | skip))
       refine .inr (.inl ⟨_, [.agg [.c (.sl 10 (es.map EN.cells)), .c (.v (.int .i64 0))], .c (.v (.string (str f)))], [1000001], ⟨by rfl, by rfl, fun k x z h5 h6 => ?_, by rfl, hF⟩, hK _ _ _ ?_⟩)
       · exact q71 es f (by simp [q0b]) h5 h6
       clear hK K
       refine q0f (And.intro @q0a (And.intro @q0b q2)) ?_
       refine q0j (@q0b) Tryz.results81 ?_
       exact ⟨q8c, .c _⟩
     have q2 : decide (at' ≥ 0) = false := by simpa using hd
     have hE : E = EA := hEA rfl hk0 hd
     subst hE
     refine ⟨⟨⟨k, f, if E = 0 then LA else [], [], [], false, [], 0, 0, []⟩, .v (.slice none 0 0), .sl 1 []⟩, fun h => by rw [if_pos h], ?_⟩
     unfold aliR at hA
     generalize (if E = 0 then LA else []) = LB at *
     rw [EN.av_eq, q2v]
     simp only []
     refine VC.toldXF (And.intro @q0a @q0g) q6g [] Tryz.func81 rfl Tryz.ntmps81 fun hb hbL => ?_
     clear hb hbL
     refine q0c ?_
     refine q0e (hT1) ?_
     refine q0c ?_
     refine q0e (hT2) ?_
     refine q0c ?_
     refine q0e (hG) ?_
     refine q0f (@q0a) ?_
     refine q0e (hJ) ?_
     refine q0c ?_
     refine q0e (hKd) ?_
     refine q0f (And.intro @q0a q1) ?_
     (refine AO.step fun K hK => ?_; simp only [go_sem, Int.reduceBEq, Int.reduceLE, Int.reduceLT, Int.reduceNeg, Nat.reduceAdd, Nat.reduceEqDiff, Nat.reduceLT, Nat.reduceLeDiff, Nat.reduceMul, Nat.reduceSub, reduceCtorEq, ↓reduceIte]; (first | refine q1m ?_ | skip))
     refine .inr (.inl ⟨_, [.agg [.c (.sl 10 (es.map EN.cells)), .c (.v (.int .i64 0))], .c (.v (.string (str f)))], [1000001], ⟨by rfl, by rfl, fun k x z h5 h6 => ?_, by rfl, hF⟩, hK _ _ _ ?_⟩)
     · exact q71 es f (by simp [q0b]) h5 h6
     clear hK K
     refine q0f (And.intro @q0a (And.intro @q0b q2)) ?_
     refine q0e (hSp) ?_
     refine q0d (And.intro @q0a @q0b) ?_
     refine q0e (hA) ?_
     refine q0f (And.intro @q0a @q0b) ?_
     refine q0j (@q0b) Tryz.results81 ?_
     exact ⟨.aggL (.cons (.c _) (.cons (.c _) (.cons (.c _) (.cons (.c _) (.cons (.nil 1) (.cons (.c _) (.cons (.c _) (.cons (.c _) (.cons (.c _) (.cons (.nil 1) .nil)))))))))), .c _⟩
 | false =>
   rw [if_neg (by simp)] at hJ
   have he1 := hE1 rfl fun h => by simp at h
   have hE31 := hE31' he1
   have hE32 := hE32' he1
   have hEA := hEA' he1
   clear hE30 hE1 hE31' hE32' hEA'
   by_cases hk : b3 = false
   · subst hk
     have hE : E = 31 := hE31 (.inl rfl)
     refine ⟨EN.of ⟨0, [], [], [], [], false, [], 0, 0, []⟩, fun h => by rw [hE] at h; simp at h, ?_⟩
     rw [hE, EN.av_eq, q8b]
     refine VC.toldXF (And.intro @q0a @q0g) q6g [] Tryz.func81 rfl Tryz.ntmps81 fun hb hbL => ?_
     clear hb hbL
     refine q0c ?_
     refine q0e (hT1) ?_
     refine q0c ?_
     refine q0e (hT2) ?_
     refine q0c ?_
     refine q0e (hG) ?_
     refine q0f (@q0a) ?_
     refine q0e (hJ) ?_
     refine q0f (@q0a) ?_
     refine q0j (@q0b) Tryz.results81 ?_
     exact ⟨q8c, .c _⟩
   have hb3 : b3 = true := by simpa using hk
   subst hb3
   clear hk
   by_cases hk : 0 < kf
   · have hE : E = 31 := hE31 (.inr (by omega))
     have q1 : decide (kf > 0) = true := by simpa using hk
     refine ⟨EN.of ⟨0, [], [], [], [], false, [], 0, 0, []⟩, fun h => by rw [hE] at h; simp at h, ?_⟩
     rw [hE, EN.av_eq, q8b]
     refine VC.toldXF (And.intro @q0a @q0g) q6g [] Tryz.func81 rfl Tryz.ntmps81 fun hb hbL => ?_
     clear hb hbL
     refine q0c ?_
     refine q0e (hT1) ?_
     refine q0c ?_
     refine q0e (hT2) ?_
     refine q0c ?_
     refine q0e (hG) ?_
     refine q0f (@q0a) ?_
     refine q0e (hJ) ?_
     refine q0c ?_
     refine q0e (hKd) ?_
     refine q0f (And.intro @q0a q1) ?_
     refine q0j (@q0b) Tryz.results81 ?_
     exact ⟨q8c, .c _⟩
   have q1 : decide (kf > 0) = false := by simp; omega
   have hk0 : kf = 0 := by omega
   by_cases hd : 0 ≤ at'
   · have hE : E = 32 := hE32 rfl hk0 hd
     have q2 : decide (at' ≥ 0) = true := by simpa using hd
     refine ⟨EN.of ⟨0, [], [], [], [], false, [], 0, 0, []⟩, fun h => by rw [hE] at h; simp at h, ?_⟩
     rw [hE, EN.av_eq, q8b]
     refine VC.toldXF (And.intro @q0a @q0g) q6g [] Tryz.func81 rfl Tryz.ntmps81 fun hb hbL => ?_
     clear hb hbL
     refine q0c ?_
     refine q0e (hT1) ?_
     refine q0c ?_
     refine q0e (hT2) ?_
     refine q0c ?_
     refine q0e (hG) ?_
     refine q0f (@q0a) ?_
     refine q0e (hJ) ?_
     refine q0c ?_
     refine q0e (hKd) ?_
     refine q0f (And.intro @q0a q1) ?_
     (refine AO.step fun K hK => ?_; simp only [go_sem, Int.reduceBEq, Int.reduceLE, Int.reduceLT, Int.reduceNeg, Nat.reduceAdd, Nat.reduceEqDiff, Nat.reduceLT, Nat.reduceLeDiff, Nat.reduceMul, Nat.reduceSub, reduceCtorEq, ↓reduceIte]; (first | refine q1m ?_ | skip))
     refine .inr (.inl ⟨_, [.agg [.c (.sl 10 (es.map EN.cells)), .c (.v (.int .i64 0))], .c (.v (.string (str f)))], [1000001], ⟨by rfl, by rfl, fun k x z h5 h6 => ?_, by rfl, hF⟩, hK _ _ _ ?_⟩)
     · exact q71 es f (by simp [q0b]) h5 h6
     clear hK K
     refine q0f (And.intro @q0a (And.intro @q0b q2)) ?_
     refine q0j (@q0b) Tryz.results81 ?_
     exact ⟨q8c, .c _⟩
   have q2 : decide (at' ≥ 0) = false := by simpa using hd
   have hE : E = EA := hEA rfl hk0 hd
   subst hE
   refine ⟨⟨⟨k, f, if E = 0 then LA else [], [], [], false, [], 0, 0, []⟩, .v (.slice none 0 0), .sl 1 []⟩, fun h => by rw [if_pos h], ?_⟩
   unfold aliR at hA
   generalize (if E = 0 then LA else []) = LB at *
   rw [EN.av_eq, q2v]
   simp only []
   refine VC.toldXF (And.intro @q0a @q0g) q6g [] Tryz.func81 rfl Tryz.ntmps81 fun hb hbL => ?_
   clear hb hbL
   refine q0c ?_
   refine q0e (hT1) ?_
   refine q0c ?_
   refine q0e (hT2) ?_
   refine q0c ?_
   refine q0e (hG) ?_
   refine q0f (@q0a) ?_
   refine q0e (hJ) ?_
   refine q0c ?_
   refine q0e (hKd) ?_
   refine q0f (And.intro @q0a q1) ?_
   (refine AO.step fun K hK => ?_; simp only [go_sem, Int.reduceBEq, Int.reduceLE, Int.reduceLT, Int.reduceNeg, Nat.reduceAdd, Nat.reduceEqDiff, Nat.reduceLT, Nat.reduceLeDiff, Nat.reduceMul, Nat.reduceSub, reduceCtorEq, ↓reduceIte]; (first | refine q1m ?_ | skip))
   refine .inr (.inl ⟨_, [.agg [.c (.sl 10 (es.map EN.cells)), .c (.v (.int .i64 0))], .c (.v (.string (str f)))], [1000001], ⟨by rfl, by rfl, fun k x z h5 h6 => ?_, by rfl, hF⟩, hK _ _ _ ?_⟩)
   · exact q71 es f (by simp [q0b]) h5 h6
   clear hK K
   refine q0f (And.intro @q0a (And.intro @q0b q2)) ?_
   refine q0e (hSp) ?_
   refine q0d (And.intro @q0a @q0b) ?_
   refine q0e (hA) ?_
   refine q0f (And.intro @q0a @q0b) ?_
   refine q0j (@q0b) Tryz.results81 ?_
   exact ⟨.aggL (.cons (.c _) (.cons (.c _) (.cons (.c _) (.cons (.c _) (.cons (.nil 1) (.cons (.c _) (.cons (.c _) (.cons (.c _) (.cons (.c _) (.cons (.nil 1) .nil)))))))))), .c _⟩

theorem j5v (nm : List UInt8) : (FT.mk nm [] 0 false zJ).cells = [.v (.string (str nm)), .sl 1 [], .v (.int .i64 0), .v (.bool false), .v (.int .i64 0), .v (.int .i64 0), .v (.string ⟨#[]⟩), .sl 5 [], .sl 1 []] := rfl
theorem j5w {K : Nat → Bool} {h : Nat → Option Blkd} (nm : List UInt8) : Frz K h (.agg [.c (.v (.string (str nm))), .c (.v (.slice none 0 0)), .c (.v (.int .i64 0)), .c (.v (.bool false)), .c (.v (.int .i64 0)), .c (.v (.int .i64 0)), .c (.v (.string ⟨#[]⟩)), .c (.v (.slice none 0 0)), .c (.v (.slice none 0 0))])
  (.agg [.c (.v (.string (str nm))), .c (.sl 1 []), .c (.v (.int .i64 0)), .c (.v (.bool false)), .c (.v (.int .i64 0)), .c (.v (.int .i64 0)), .c (.v (.string ⟨#[]⟩)), .c (.sl 5 []), .c (.sl 1 [])]) :=
 .aggL (.cons (.c _) (.cons (.nil 1) (.cons (.c _) (.cons (.c _) (.cons (.c _) (.cons (.c _) (.cons (.c _) (.cons (.nil 5) (.cons (.nil 1) .nil)))))))))
theorem gt_kd {x : JT} {key : List UInt8} (h : ((gt x key).kd == 4) = true) : x.kd = 6 := by
 unfold gt at h
 cases hx : jget x key with
 | none => rw [hx] at h; simp [zJ, JT.kd] at h
 | some y =>
   cases x with
   | mk k n s ks xs =>
     rw [jget] at hx
     split at hx
     · rename_i h2
       exact h2.1
     · simp at hx
theorem anyN_next {fs : List FT} {i : Nat} {o : FT} (h : fs[i]? = some o) (nm : List UInt8) : ((fs.take (i + 1)).any fun f => f.name == nm) = (((fs.take i).any fun f => f.name == nm) || (o.name == nm)) := by
 rw [List.take_add_one, h]
 simp
theorem z1y (x : JT) (hx : x.sm 1000000) (fs : List FT) (hfl : fs.length ≤ 1000000) : ∃ g : FT, (q29 0 x fs = 0 → g = q6i x) ∧ ToldM Tryz.prog 135 [x.av, .row 1000000 fs.length] [xFs fs] [some (xFs fs)] (.tup [g.av, .c (.v (.int .i64 (q29 0 x fs)))]) := by
 have hT1 := q5v x q0x
 have hS := q86 (gt x q0x).txt (by have := (q17 (q2o hx q0x)).1; omega)
 have hA := z5u x (q17 (q2o hx q0z)).2.1 (fun y hy => (q17 ((q17 (q2o hx q0z)).2.2 y hy)).1) []
 have hD := q4k x q1q
 have hTy := q4k x q0k
 rw [show (jget x q1q).getD zJ = gt x q1q from rfl] at hD
 rw [show (jget x q0k).getD zJ = gt x q0k from rfl] at hTy
 obtain ⟨E, hE⟩ : ∃ E, E = q29 0 x fs := ⟨_, rfl⟩
 rw [← hE]
 have hE30 : ((gt x q0x).kd == 4) = false → E = 30 := fun h => by
  rw [hE]
  unfold q29 q53
  rw [show ((gt x q0x).kd != 4) = true by simpa [bne] using h]
  rw [show fl (fl 0 (x.kd != 6) 30) true 30 = 30 by cases (x.kd != 6) <;> rfl]
  simp only [f30, al30]
 have hE31 : ((gt x q0x).kd == 4) = true → q1h (gt x q0x).txt = false → E = 31 := fun h h2 => by
  rw [hE]
  unfold q29 q53
  rw [show ((gt x q0x).kd != 4) = false by simpa [bne] using h, show (x.kd != 6) = false by simpa using gt_kd h, h2]
  simp only [fl_f, Bool.not_false, fl_t, f31, al31]
 have hE36 : ((gt x q0x).kd == 4) = true → q1h (gt x q0x).txt = true → (fs.any fun o => o.name == (gt x q0x).txt) = true → E = 36 := fun h h2 h3 => by
  rw [hE]
  unfold q29 q53
  rw [show ((gt x q0x).kd != 4) = false by simpa [bne] using h, show (x.kd != 6) = false by simpa using gt_kd h, h2, h3]
  simp only [fl_f, Bool.not_true, fl_t, f36, al36]
 have hEA : ((gt x q0x).kd == 4) = true → q1h (gt x q0x).txt = true → (fs.any fun o => o.name == (gt x q0x).txt) = false → E = fl (q2z 0 x q1h) (!(jget x q0k).isSome) 30 := fun h h2 h3 => by
  rw [hE]
  unfold q29 q53
  rw [show ((gt x q0x).kd != 4) = false by simpa [bne] using h, show (x.kd != 6) = false by simpa using gt_kd h, h2, h3]
  simp only [fl_f, Bool.not_true]
 clear hE
 unfold q6i
 unfold aliR at hA
 generalize q2z 0 x q1h = EA at *
 generalize q3i x id = LA at *
 generalize ((gt x q0x).kd == 4) = b1 at *
 generalize (gt x q0x).txt = nm at *
 generalize q1h nm = b2 at *
 generalize (jget x q1q).isSome = b3 at *
 generalize gt x q1q = d at *
 generalize (jget x q0k).isSome = b4 at *
 generalize gt x q0k = w at *
 rw [JT.av_eq d, q0m d] at hD
 rw [JT.av_eq w, q0m w] at hTy
 rw [JT.av_eq x, q0m x] at *
 generalize x.kd = x1 at *
 generalize x.num = x2 at *
 generalize x.txt = x3 at *
 generalize x.its = x4 at *
 generalize x.keys = x5 at *
 generalize w.kd = w1 at *
 generalize w.num = w2 at *
 generalize w.txt = w3 at *
 generalize w.its = w4 at *
 generalize w.keys = w5 at *
 rw [q0x, q2h [110, 97, 109, 101]] at hT1
 rw [q1q, q2h [100, 101, 102, 97, 117, 108, 116]] at hD
 rw [q0k, q2h [116, 121, 112, 101]] at hTy
 rw [show str [] = ⟨#[]⟩ from rfl] at hA
 unfold xFs
 cases b1 with
 | false =>
   have hE := hE30 rfl
   refine ⟨⟨[], [], 0, false, zJ⟩, fun h => by rw [hE] at h; simp at h, ?_⟩
   rw [hE, FT.av, j5v]
   refine VC.toldXF (And.intro @q0a @q0g) j6b [] Tryz.func135 rfl Tryz.ntmps135 fun hb hbL => ?_
   clear hb hbL
   refine q0c ?_
   refine q0e (hT1) ?_
   refine q0u ?_
   refine q0j (@q0b) Tryz.results135 ?_
   exact ⟨j5w [], .c _⟩
 | true =>
 replace hE31 := hE31 rfl
 replace hE36 := hE36 rfl
 replace hEA := hEA rfl
 clear hE30
 cases b2 with
 | false =>
   have hE := hE31 rfl
   refine ⟨⟨[], [], 0, false, zJ⟩, fun h => by rw [hE] at h; simp at h, ?_⟩
   rw [hE, FT.av, j5v]
   refine VC.toldXF (And.intro @q0a @q0g) j6b [] Tryz.func135 rfl Tryz.ntmps135 fun hb hbL => ?_
   clear hb hbL
   refine q0c ?_
   refine q0e (hT1) ?_
   refine q0u ?_
   refine q0e (hS) ?_
   refine q0u ?_
   refine q0j (@q0b) Tryz.results135 ?_
   exact ⟨j5w [], .c _⟩
 | true =>
 replace hE36 := hE36 rfl
 replace hEA := hEA rfl
 clear hE31
 obtain ⟨g, hg⟩ : ∃ g : FT, g = if (fs.any fun o => o.name == nm) = true then ⟨[], [], 0, false, zJ⟩ else if EA ≠ 0 then ⟨nm, [], 0, false, zJ⟩ else ⟨nm, LA, 0, b3, d⟩ := ⟨_, rfl⟩
 refine ⟨g, fun h => ?_, ?_⟩
 · rw [hg]
   cases hb : fs.any fun o => o.name == nm with
   | true => rw [hE36 hb] at h; simp at h
   | false =>
     rw [if_neg (by simp)]
     rw [hEA hb] at h
     by_cases hz : EA = 0
     · rw [if_neg (by simpa using hz)]
     · rw [q1i _ _ _ hz] at h
       exact absurd h hz
 rw [FT.av_eq]
 refine VC.toldXF (And.intro @q0a @q0g) j6b [] Tryz.func135 rfl Tryz.ntmps135 fun hb hbL => ?_
 clear hb hbL
 refine q0c ?_
 refine q0e (hT1) ?_
 refine q0u ?_
 refine q0e (hS) ?_
 refine q0u ?_
 refine VC.loop (ι := {i : Nat // i ≤ fs.length ∧ ((fs.take i).any fun f => f.name == nm) = false}) (fun q => [(1, .row 1000000 fs.length), (2, .ref 0 1 0 0), (4, .ref 8 1 0 0), (6, .c (.v (.string (str nm)))), (8, .c (.v (.int .i64 (q.1 : Int))))])
  (fun q => [(1000000, ⟨true, 72, 9, rA FT.cells fs⟩), (0, ⟨false, 25, 5, [[.c (.v (.int .i64 x1)), .c (.v (.int .i64 x2)), .c (.v (.string (str x3))), .c (.sl 5 (x4.map JT.cells)), .c (.sl 1 (x5.map sPV))]]⟩),
   (8, ⟨false, 72, 9, [[.c (.v (.string ⟨#[]⟩)), .c (.v (.slice none 0 0)), .c (.v (.int .i64 0)), .c (.v (.bool false)), .c (.v (.int .i64 0)), .c (.v (.int .i64 0)), .c (.v (.string ⟨#[]⟩)), .c (.v (.slice none 0 0)), .c (.v (.slice none 0 0))]]⟩)]) 800 (fun q => fs.length - q.1) ⟨0, Nat.zero_le _, rfl⟩ ?_ ?_
 · simp only [q0a, q0g, Weak, eq_self, q09, q03, sc_c, q05, q06, q07, q02, q04, ScL, q08, List.forall_mem_map, go_sem, Int.reduceBEq, Int.reduceLE, Int.reduceLT, Int.reduceNeg, Nat.reduceAdd, Nat.reduceEqDiff, Nat.reduceLT, Nat.reduceLeDiff, Nat.reduceMul, Nat.reduceSub, reduceCtorEq, ↓reduceIte]
   all_goals first | rfl | exact Nat.le_refl _
 rintro ⟨i, hi, han⟩
 simp only []
 refine q0d (@q0a) ?_
 refine VC.cond (by rfl) (by trivial) (fun hc => ?_) (fun hc => ?_)
 · have hlt : i < fs.length := by simp at hc; omega
   obtain ⟨o, ho⟩ : ∃ o, fs[i]? = some o := ⟨fs[i], List.getElem?_eq_getElem hlt⟩
   have hop : (rA FT.cells fs)[i]? = some (o.cells.map .c) := q4j ho
   rw [FT.cells, q0m o.dflt] at hop
   simp only [List.map_cons, List.map_nil] at hop
   have hil : (i : Int) < (fs.length : Int) := by omega
   have hw : IntKind.i64.wrap ((i : Int) + 1) = (i : Int) + 1 := q0w (by omega) (by omega)
   refine q0d (And.intro hop (And.intro @q0a (And.intro hil @q2i))) ?_
   refine VC.cond (by rfl) (by trivial) (fun hq => ?_) (fun hq => ?_)
   · have hb : (fs.any fun o => o.name == nm) = true := List.any_eq_true.2 ⟨o, List.mem_of_getElem? ho, hq⟩
     have hgz : g = ⟨[], [], 0, false, zJ⟩ := by rw [hg, if_pos hb]
     rw [hgz, hE36 hb, j5v]
     refine q0c ?_
     refine q0j (@q0b) Tryz.results135 ?_
     exact ⟨j5w [], .c _⟩
   · refine q0d (hw) ?_
     refine .next ⟨i + 1, by omega, by rw [anyN_next ho, han, hq]; rfl⟩ ?_ (by simp only []; omega)
     refine q1l (And.intro @q0a @q0g) ?_
     (repeat' apply And.intro) <;> first | exact Nat.le_refl _ | rfl | exact cI (by omega)
 · have hie : i = fs.length := by simp at hc; omega
   subst hie
   rw [List.take_length] at han
   rw [hEA han]
   rw [han, if_neg (by simp)] at hg
   by_cases hz : EA = 0
   rotate_left
   · have q1 : (EA != 0) = true := by simpa using hz
     rw [if_pos hz] at hg
     rw [hg, q1i _ _ _ hz, j5v]
     refine q0c ?_
     refine q0e (hA) ?_
     refine q0f (q1) ?_
     refine q0j (@q0b) Tryz.results135 ?_
     exact ⟨j5w nm, .c _⟩
   · subst hz
     rw [if_neg (by simp)] at hg
     rw [hg, FT.cells, q0m d]
     clear hg
     rw [if_pos rfl] at hA
     generalize d.kd = d1 at *
     generalize d.num = d2 at *
     generalize d.txt = d3 at *
     generalize d.its = d4 at *
     generalize d.keys = d5 at *
     refine q0c ?_
     refine q0e (hA) ?_
     refine q0u ?_
     refine q0e (hD) ?_
     refine q0u ?_
     refine q0e (hTy) ?_
     refine q0u ?_
     cases b4 with
     | false =>
       refine q0u ?_
       refine q0j (@q0b) Tryz.results135 ?_
       exact ⟨.aggL (.cons (.c _) (.cons (.c _) (.cons (.c _) (.cons (.c _) (.cons (.c _) (.cons (.c _) (.cons (.c _) (.cons (.c _) (.cons (.c _) .nil))))))))), .c _⟩
     | true =>
       refine q0u ?_
       refine q0j (@q0b) Tryz.results135 ?_
       exact ⟨.aggL (.cons (.c _) (.cons (.c _) (.cons (.c _) (.cons (.c _) (.cons (.c _) (.cons (.c _) (.cons (.c _) (.cons (.c _) (.cons (.c _) .nil))))))))), .c _⟩

theorem rOpenS {f : FuncId} {args : List AV} {y : AV} (n : NT) (es : List EN) (new : List NT) (fs : List FT) (m : List NT) (hy : ∀ used h, Sc used h y)
  (hT : ∀ E : List EN, E.length = es.length + 1 + new.length → hsE E = hsE es ++ [q0p n] ++ new.map q0p → ToldM Tryz.prog f args [xS E.length, xN E] [some (xS (E ++ m.map EN.of).length), some (xN (E ++ m.map EN.of))] y) :
  ToldM Tryz.prog f args [xS (es.length + 1 + new.length), xNF (rE n es new) es.length (r0 n) 1000002 fs.length, xFs fs] [some (xS (es.length + 1 + (new ++ m).length)), some (xNF (rE n es (new ++ m)) es.length (r0 n) 1000002 fs.length), some (xFs fs)] y := by
 have h := z5o (q7a n es new) (xFs fs) rfl (j5u fs) (f := f) (args := args) (y := y) (es.length + 1 + new.length) (es.length + 1 + (new ++ m).length) m (by rw [q2x, List.length_append]; omega) hy (fun x => by
  have h1 := hT ((rE n es new).set es.length ((r0 n).wf (.v x))) (by rw [List.length_set, q2x]) (by rw [q8r (q7a n es new) ((r0 n).wf (.v x)) rfl, rE_hs])
  rw [q5q, List.length_set, q2x] at h1
  rw [List.length_append, ← Nat.add_assoc]
  exact h1)
 rw [rE_app, j5t] at h
 exact h
theorem rNoS {f : FuncId} {args : List AV} {y : AV} (n : NT) (es : List EN) (new : List NT) (fs : List FT) (hy : ∀ used h, Sc used h y)
  (hT : ∀ E : List EN, E.length = es.length + 1 + new.length → hsE E = hsE es ++ [q0p n] ++ new.map q0p → ToldM Tryz.prog f args [xS E.length, xN E] [none, none] y) :
  ToldM Tryz.prog f args [xS (es.length + 1 + new.length), xNF (rE n es new) es.length (r0 n) 1000002 fs.length, xFs fs] [none, none, some (xFs fs)] y := by
 have h := openSF_no (xFs fs) rfl (j5u fs) (f := f) (args := args) (y := y) (es := rE n es new) (i := es.length) (e0 := r0 n) (es.length + 1 + new.length) hy (fun x => by
  have h1 := hT ((rE n es new).set es.length ((r0 n).wf (.v x))) (by rw [List.length_set, q2x]) (by rw [q8r (q7a n es new) ((r0 n).wf (.v x)) rfl, rE_hs])
  rw [List.length_set, q2x] at h1
  exact h1)
 rw [j5t] at h
 exact h
theorem z10 (n : NT) (es : List EN) (hl : es.length < 200) : ToldM Tryz.prog 128 [.ref 1000000 1 0 0, (r0 n).av] [xS es.length, xN es]
  [some (xS (es.length + 1)), some (xN (rE n es []))] (.tup [.c (.v (.int .i64 (es.length : Int))), .c (.v (.int .i64 0))]) := j7n es hl (r0 n)
theorem z6k (es : List EN) (hl : es.length < 200) (j : JT) (hj : j.sm 1000000) (hk5 : (gt j q0q).kd = 5) (h40 : (gt j q0q).its.length ≤ 40) (n : NT) (hnl : n.name.length ≤ 1000000) (f : q18) (hErr : ErrB f) (hLen : LenB f)
  (hN : ∀ x ∈ (gt j q0q).its, ∀ t, jget x q0k = some t → ∀ es' : List EN, es'.length ≤ 200 → RT 39 es' [t.av, .c (.v (.string (str (q1n n.name))))] (f (hsE es') t (q1n n.name)))
  (fs' : List FT) (new' : List NT) (hU : q3d f (hsE es ++ [q0p n]) (q1n n.name) (gt j q0q).its [] [] = .ok (fs', new')) :
  ToldM Tryz.prog 82 [.ref 1000000 1 0 0, j.av, (r0 n).av] [xS es.length, xN es] [some (xS (es ++ ({ n with fields := fs' } :: new').map EN.of).length), some (xN (es ++ ({ n with fields := fs' } :: new').map EN.of))] (.tup [.c (.v (.int .i64 (es.length : Int))), .c (.v (.int .i64 0))]) := by
 have hxs := (q17 (q2o hj q0q)).2.2
 have hG := q4k j q0q
 rw [show (jget j q0q).getD zJ = gt j q0q from rfl] at hG
 generalize (jget j q0q).isSome = bj at *
 generalize gt j q0q = w at *
 obtain ⟨l, hl'⟩ : ∃ l, l = w.its := ⟨_, rfl⟩
 rw [← hl'] at hxs hN h40 hU
 have hFr := z10 n es hl
 have hd2 : decide ((l.length : Int) > 40) = false := by simp; omega
 have hSp := j7s n.name (by omega)
 have hscU : ∀ (new : List NT) (r m : Nat) {used : Nat → Prop} {h : Nat → Option Blkd}, (∀ e ∈ (rA EN.cells (rE n es new)).set es.length (opF (r0 n) r m), ∀ x ∈ e, Sc used h x) = Sc used h (.row r m) := fun new r m {used} {h} => (q4z (by rw [q2x]; omega) _).trans (j2r (r0 n) r m)
 have hat0 : (rA EN.cells (rE n es []))[es.length]? = some ((r0 n).cells.map .c) := q4j (q7a n es [])
 have hlen0 : (rE n es []).length = es.length + 1 := q2x n es []
 obtain ⟨R, hR⟩ : ∃ R, R = es ++ ({ n with fields := fs' } :: new').map EN.of := ⟨_, rfl⟩
 have hRl : R.length = es.length + 1 + new'.length := by rw [hR]; simp; omega
 rw [← hR, hRl]
 rw [EN.av_eq, q2v] at hFr ⊢
 rw [JT.av_eq w, q0m w, hk5, ← hl'] at hG
 rw [JT.av_eq, q0m] at hG ⊢
 clear hj
 generalize j.kd = j1 at *
 generalize j.num = j2 at *
 generalize j.txt = j3 at *
 generalize j.its = j4 at *
 generalize j.keys = j5 at *
 generalize w.num = w2 at *
 generalize w.txt = w3 at *
 generalize w.keys = w5 at *
 rw [q0q, q2h [102, 105, 101, 108, 100, 115]] at hG
 clear hk5
 unfold xS xN at hFr ⊢
 refine VC.toldXF (And.intro @q0a (And.intro @q0g hRl)) j28 [] Tryz.func82 rfl Tryz.ntmps82 fun hb hbL => ?_
 clear hb hbL
 refine q0c ?_
 refine q0e (hG) ?_
 refine q0f (hd2) ?_
 refine q0i (And.intro @q0a @q0b) [1000000, 1000001] (hFr) ?_
 refine q0f (And.intro @q0a @q0b) ?_
 refine VC.nilR 1000001 es.length 3 72 9 ⟨true, 40, 10, rA EN.cells (rE n es [])⟩ ((r0 n).cells.map .c) (by simp only [go_sem, simprocAttr, q0b]) hat0 rfl (by rfl) ?_
 refine VC.loop (ι := {q : Nat × List FT × List NT // q.1 ≤ l.length ∧ q.2.1.length = q.1 ∧ es.length + 1 + q.2.2.length ≤ 200 ∧ q3d f (hsE es ++ [q0p n]) (q1n n.name) (l.drop q.1) q.2.1 q.2.2 = .ok (fs', new')})
  (fun q => [(0, .ref 1000000 1 0 0), (5, .ref 8 1 0 0), (8, .ref 72 1 0 0), (10, .c (.v (.int .i64 (es.length : Int)))), (12, .c (.v (.int .i64 (q.1.1 : Int))))])
  (fun q => [(1000000, ⟨false, 66, 2, [[.row 1000001 (es.length + 1 + q.1.2.2.length), .c (.v (.int .i64 0))]]⟩), (1000001, ⟨true, 40, 10, (rA EN.cells (rE n es q.1.2.2)).set es.length (opF (r0 n) 240 q.1.2.1.length)⟩), (240, ⟨true, 72, 9, rA FT.cells q.1.2.1⟩),
   (8, ⟨false, 40, 10, [[.c (.v (.int .i64 n.kind)), .c (.v (.string (str n.name))), .c (.sl 1 (n.aliases.map sPV)), .c (.v (.slice none 0 0)), .c (.sl 1 (n.symbols.map sPV)), .c (.v (.bool n.has)), .c (.v (.string (str n.dflt))), .c (.v (.int .i64 n.size)), .c (.v (.int .i64 n.items)), .c (.sl 1 (n.branches.map iPV))]]⟩), (72, ⟨false, 25, 5, [[.c (.v (.int .i64 5)), .c (.v (.int .i64 w2)), .c (.v (.string (str w3))), .c (.sl 5 (l.map JT.cells)), .c (.sl 1 (w5.map sPV))]]⟩)]) 2000 (fun q => l.length - q.1.1)
  ⟨(0, [], []), Nat.zero_le _, rfl, by simp; omega, by rw [List.drop_zero]; exact hU⟩ ?_ ?_
 · refine q1l (And.intro @q0a (And.intro @q0g (And.intro @q0b (And.intro @q0s (And.intro @q2x (And.intro @q32 hscU)))))) ?_
   (repeat' apply And.intro) <;> first | exact Nat.le_refl _ | rfl | exact cI (by omega)
 rintro ⟨⟨i, fs, new⟩, hi, hkl, hnw, hGi⟩
 simp only [] at hi hkl hnw hGi ⊢
 have hlen : (rE n es new).length = es.length + 1 + new.length := q2x n es new
 refine q0c ?_
 refine VC.cond (by rfl) (by trivial) (fun hc => ?_) (fun hc => ?_)
 rotate_left
 · have hie : i = l.length := by simp at hc; omega
   rw [hie, List.drop_length, q3d] at hGi
   injection hGi with hGi
   injection hGi with g1 g2
   subst g1 g2
   refine VC.frz [240] [(10, .c (.v (.int .i64 (es.length : Int))))] [(1000001, ⟨true, 40, 10, rA EN.cells R⟩), (1000000, ⟨false, 66, 2, [[.row 1000001 (es.length + 1 + new.length), .c (.v (.int .i64 0))]]⟩)] 3000 ?_ ?_
   · refine q6y (And.intro @q0a (And.intro @q0g (And.intro @q0b (And.intro @q0v (And.intro @q1k hRl))))) ?_
     exact ⟨.same _, ⟨rFB 240 n es new fs hR (by rfl), .same _⟩, Nat.le_refl _⟩
   refine q0c ?_
   refine q0j (@q0b) Tryz.results82 ?_
   exact ⟨.c _, .c _⟩
 · have hlt : i < l.length := by simp at hc; omega
   obtain ⟨x, hx⟩ : ∃ x, l[i]? = some x := ⟨l[i], List.getElem?_eq_getElem hlt⟩
   have hxm := List.mem_of_getElem? hx
   have hNx := hN x hxm
   have hwi : IntKind.i64.wrap ((i : Int) + 1) = (i : Int) + 1 := q0w (by omega) (by omega)
   have hdr : l.drop i = x :: l.drop (i + 1) := by
    obtain ⟨h5, h6⟩ := List.getElem?_eq_some_iff.1 hx
    rw [List.drop_eq_getElem_cons h5, h6]
   rw [hdr, q3d, j6f] at hGi
   have hhl : (hsE es ++ [q0p n] ++ new.map q0p).length = es.length + 1 + new.length := by simp [hsE]; omega
   have hxp : (l.map JT.cells)[i]? = some x.cells := by rw [List.getElem?_map, hx]; rfl
   rw [q0m x] at hxp
   have hilt : (i : Int) < (l.length : Int) := by omega
   obtain ⟨g, hgf, hFd⟩ := z1y x (hxs x hxm) fs (by omega)
   unfold xFs at hFd
   have hat : ∀ new : List NT, ((rA EN.cells (rE n es new)).set es.length (opF (r0 n) 240 fs.length))[es.length]? = some [.c (.v (.int .i64 n.kind)), .c (.v (.string (str n.name))), .c (.sl 1 (n.aliases.map sPV)), .row 240 fs.length, .c (.sl 1 (n.symbols.map sPV)), .c (.v (.bool n.has)), .c (.v (.string (str n.dflt))), .c (.v (.int .i64 n.size)), .c (.v (.int .i64 n.items)), .c (.sl 1 (n.branches.map iPV))] := fun new => (List.getElem?_set_self (by rw [q0a, q2x]; omega)).trans (congrArg some (rC_eq n 240 fs.length))
   have h0l : (0 : Int) ≤ (es.length : Int) := by omega
   have hll : ∀ new : List NT, (es.length : Int) < ((es.length + 1 + new.length : Nat) : Int) := fun new => by omega
   have hatn := hat new
   have hlln := hll new
   by_cases h1 : q29 0 x fs = 0
   rotate_left
   · rw [q16 h1] at hGi
     simp at hGi
   rw [h1, q2p] at hGi
   simp only [] at hGi
   have hg := hgf h1
   rw [h1] at hFd
   subst hg
   clear hgf
   have hs : (jget x q0k).isSome = true := by
    cases hb : (jget x q0k).isSome with
    | true => rfl
    | false =>
      unfold q29 at h1
      rw [hb] at h1
      have := (j4k (by decide) h1).2
      simp at this
   obtain ⟨t, ht⟩ := Option.isSome_iff_exists.1 hs
   have hG2 := q4k x q0k
   rw [ht] at hG2 hGi
   simp only [Option.getD_some, Option.isSome_some] at hG2 hGi
   replace hNx := hNx t ht
   obtain ⟨f1, hf1⟩ : ∃ f1, f1 = (gt x q0x).txt := ⟨_, rfl⟩
   obtain ⟨f2, hf2⟩ : ∃ f2, f2 = q3i x id := ⟨_, rfl⟩
   obtain ⟨f4, hf4⟩ : ∃ f4, f4 = (jget x q1q).isSome := ⟨_, rfl⟩
   obtain ⟨f5, hf5⟩ : ∃ f5, f5 = gt x q1q := ⟨_, rfl⟩
   have hff : q6i x = ⟨f1, f2, 0, f4, f5⟩ := by rw [hf1, hf2, hf4, hf5]; rfl
   rw [hff] at hFd hGi
   clear hff hf1 hf2 hf4 hf5 hs ht h1 hN
   rw [FT.av_eq, FT.cells, q0m f5] at hFd
   simp only [] at hFd hGi
   rw [JT.av_eq x, q0m x] at hFd hG2
   rw [JT.av_eq t, q0m t] at hG2
   rw [q0k, q2h [116, 121, 112, 101]] at hG2
   cases hf : f (hsE es ++ [q0p n] ++ new.map q0p) t (q1n n.name) with
   | error e2 =>
     rw [hf] at hGi
     simp at hGi
   | ok V =>
   obtain ⟨m, k⟩ := V
   rw [hf] at hGi
   simp only [] at hGi
   have hL := hLen _ _ _ _ _ (by rw [hhl]; exact hnw) hf
   rw [hhl] at hL
   have hN1 := rOpenS n es new fs m (f := 39) (args := [.ref 1000000 1 0 0, t.av, .c (.v (.string (str (q1n n.name))))]) (j2x k 0) (fun E hEl hEh => (hNx E (by rw [hEl]; exact hnw)).yes m k (by rw [hEh]; exact hf))
   unfold xS xNF xFs at hN1
   rw [JT.av_eq t, q0m t] at hN1
   clear hNx hf hErr
   have hlen2 : (rE n es (new ++ m)).length = es.length + 1 + (new ++ m).length := q2x n es (new ++ m)
   have hone : rA FT.cells fs ++ [[.c (.v (.string (str f1))), .c (.sl 1 (f2.map sPV)), .c (.v (.int .i64 k)), .c (.v (.bool f4)), .c (.v (.int .i64 f5.kd)), .c (.v (.int .i64 f5.num)), .c (.v (.string (str f5.txt))), .c (.sl 5 (f5.its.map JT.cells)), .c (.sl 1 (f5.keys.map sPV))]] = rA FT.cells (fs ++ [⟨f1, f2, k, f4, f5⟩]) := by
    have h := q58 FT.cells fs ⟨f1, f2, k, f4, f5⟩
    rw [FT.cells, q0m f5] at h
    exact h
   have hatm := hat (new ++ m)
   have hllm := hll (new ++ m)
   generalize x.kd = x1 at *
   generalize x.num = x2 at *
   generalize x.txt = x3 at *
   generalize x.its = x4 at *
   generalize x.keys = x5 at *
   refine q0f (And.intro hxp (And.intro hilt (And.intro hatn (And.intro h0l (And.intro hlln (And.intro @q0s (And.intro @q0a hlen))))))) ?_
   refine q0i (And.intro @q0a (And.intro @q0b (And.intro @q0v (And.intro @q1k (And.intro @q0s hlen))))) [240] (hFd) ?_
   refine q0f (And.intro @q0s (And.intro @q0a (And.intro @q0b (And.intro @q0v (And.intro @q1k (And.intro hlen (And.intro hxp hilt))))))) ?_
   refine q0e (hG2) ?_
   refine q0d (And.intro @q0s (And.intro @q0a (And.intro @q0b (And.intro @q0v (And.intro @q1k hlen))))) ?_
   refine q0e (hSp) ?_
   refine q0d (And.intro @q0s (And.intro @q0a (And.intro @q0b (And.intro @q0v (And.intro @q1k hlen))))) ?_
   refine q0i (And.intro @q0a (And.intro @q0b (And.intro @q0v (And.intro @q1k (And.intro @q0s (And.intro hlen hlen2)))))) [1000000, 1000001, 240] (hN1) ?_
   refine q0f (And.intro @q0s (And.intro @q0a (And.intro @q0b (And.intro @q0v (And.intro @q1k (And.intro hlen2 (And.intro hatm (And.intro h0l (And.intro hllm (And.intro hone (And.intro @q8u hwi))))))))))) ?_
   refine .next ⟨(i + 1, fs ++ [⟨f1, f2, k, f4, f5⟩], new ++ m), by simp only []; omega, by simp only [List.length_append, List.length_singleton]; omega, by simp only [List.length_append]; omega, hGi⟩ ?_ (by simp only []; omega)
   refine q1l (And.intro @q0a (And.intro @q0g (And.intro @q0b (And.intro @q0v (And.intro @q1k (And.intro @q0s (And.intro hlen2 (And.intro hscU (And.intro @q7r @q8v))))))))) ?_
   (repeat' apply And.intro) <;> first | exact Nat.le_refl _ | rfl | exact cI (by omega)
theorem z6i (es : List EN) (hl : es.length < 200) (j : JT) (hj : j.sm 1000000) (hk5 : (gt j q0q).kd = 5) (h40 : (gt j q0q).its.length ≤ 40) (n : NT) (hnl : n.name.length ≤ 1000000) (f : q18) (hErr : ErrB f) (hLen : LenB f)
  (hN : ∀ x ∈ (gt j q0q).its, ∀ t, jget x q0k = some t → ∀ es' : List EN, es'.length ≤ 200 → RT 39 es' [t.av, .c (.v (.string (str (q1n n.name))))] (f (hsE es') t (q1n n.name)))
  (e : Int) (hU : q3d f (hsE es ++ [q0p n]) (q1n n.name) (gt j q0q).its [] [] = .error e) :
  ToldM Tryz.prog 82 [.ref 1000000 1 0 0, j.av, (r0 n).av] [xS es.length, xN es] [none, none] (.tup [.c (.v (.int .i64 0)), .c (.v (.int .i64 e))]) := by
 have hxs := (q17 (q2o hj q0q)).2.2
 have hG := q4k j q0q
 rw [show (jget j q0q).getD zJ = gt j q0q from rfl] at hG
 generalize (jget j q0q).isSome = bj at *
 generalize gt j q0q = w at *
 obtain ⟨l, hl'⟩ : ∃ l, l = w.its := ⟨_, rfl⟩
 rw [← hl'] at hxs hN h40 hU
 have hFr := z10 n es hl
 have hd2 : decide ((l.length : Int) > 40) = false := by simp; omega
 have hSp := j7s n.name (by omega)
 have hscU : ∀ (new : List NT) (r m : Nat) {used : Nat → Prop} {h : Nat → Option Blkd}, (∀ e ∈ (rA EN.cells (rE n es new)).set es.length (opF (r0 n) r m), ∀ x ∈ e, Sc used h x) = Sc used h (.row r m) := fun new r m {used} {h} => (q4z (by rw [q2x]; omega) _).trans (j2r (r0 n) r m)
 have hat0 : (rA EN.cells (rE n es []))[es.length]? = some ((r0 n).cells.map .c) := q4j (q7a n es [])
 have hlen0 : (rE n es []).length = es.length + 1 := q2x n es []
 rw [EN.av_eq, q2v] at hFr ⊢
 rw [JT.av_eq w, q0m w, hk5, ← hl'] at hG
 rw [JT.av_eq, q0m] at hG ⊢
 clear hj
 generalize j.kd = j1 at *
 generalize j.num = j2 at *
 generalize j.txt = j3 at *
 generalize j.its = j4 at *
 generalize j.keys = j5 at *
 generalize w.num = w2 at *
 generalize w.txt = w3 at *
 generalize w.keys = w5 at *
 rw [q0q, q2h [102, 105, 101, 108, 100, 115]] at hG
 clear hk5
 unfold xS xN at hFr ⊢
 refine VC.toldXF (And.intro @q0a @q0g) j28 [] Tryz.func82 rfl Tryz.ntmps82 fun hb hbL => ?_
 clear hb hbL
 refine q0c ?_
 refine q0e (hG) ?_
 refine q0f (hd2) ?_
 refine q0i (And.intro @q0a @q0b) [1000000, 1000001] (hFr) ?_
 refine q0f (And.intro @q0a @q0b) ?_
 refine VC.nilR 1000001 es.length 3 72 9 ⟨true, 40, 10, rA EN.cells (rE n es [])⟩ ((r0 n).cells.map .c) (by simp only [go_sem, simprocAttr, q0b]) hat0 rfl (by rfl) ?_
 refine VC.loop (ι := {q : Nat × List FT × List NT // q.1 ≤ l.length ∧ q.2.1.length = q.1 ∧ es.length + 1 + q.2.2.length ≤ 200 ∧ q3d f (hsE es ++ [q0p n]) (q1n n.name) (l.drop q.1) q.2.1 q.2.2 = .error e})
  (fun q => [(0, .ref 1000000 1 0 0), (5, .ref 8 1 0 0), (8, .ref 72 1 0 0), (10, .c (.v (.int .i64 (es.length : Int)))), (12, .c (.v (.int .i64 (q.1.1 : Int))))])
  (fun q => [(1000000, ⟨false, 66, 2, [[.row 1000001 (es.length + 1 + q.1.2.2.length), .c (.v (.int .i64 0))]]⟩), (1000001, ⟨true, 40, 10, (rA EN.cells (rE n es q.1.2.2)).set es.length (opF (r0 n) 240 q.1.2.1.length)⟩), (240, ⟨true, 72, 9, rA FT.cells q.1.2.1⟩),
   (8, ⟨false, 40, 10, [[.c (.v (.int .i64 n.kind)), .c (.v (.string (str n.name))), .c (.sl 1 (n.aliases.map sPV)), .c (.v (.slice none 0 0)), .c (.sl 1 (n.symbols.map sPV)), .c (.v (.bool n.has)), .c (.v (.string (str n.dflt))), .c (.v (.int .i64 n.size)), .c (.v (.int .i64 n.items)), .c (.sl 1 (n.branches.map iPV))]]⟩), (72, ⟨false, 25, 5, [[.c (.v (.int .i64 5)), .c (.v (.int .i64 w2)), .c (.v (.string (str w3))), .c (.sl 5 (l.map JT.cells)), .c (.sl 1 (w5.map sPV))]]⟩)]) 2000 (fun q => l.length - q.1.1)
  ⟨(0, [], []), Nat.zero_le _, rfl, by simp; omega, by rw [List.drop_zero]; exact hU⟩ ?_ ?_
 · refine q1l (And.intro @q0a (And.intro @q0g (And.intro @q0b (And.intro @q0s (And.intro @q2x (And.intro @q32 hscU)))))) ?_
   (repeat' apply And.intro) <;> first | exact Nat.le_refl _ | rfl | exact cI (by omega)
 rintro ⟨⟨i, fs, new⟩, hi, hkl, hnw, hGi⟩
 simp only [] at hi hkl hnw hGi ⊢
 have hlen : (rE n es new).length = es.length + 1 + new.length := q2x n es new
 refine q0c ?_
 refine VC.cond (by rfl) (by trivial) (fun hc => ?_) (fun hc => ?_)
 rotate_left
 · have hie : i = l.length := by simp at hc; omega
   rw [hie, List.drop_length, q3d] at hGi
   simp at hGi
 · have hlt : i < l.length := by simp at hc; omega
   obtain ⟨x, hx⟩ : ∃ x, l[i]? = some x := ⟨l[i], List.getElem?_eq_getElem hlt⟩
   have hxm := List.mem_of_getElem? hx
   have hNx := hN x hxm
   have hwi : IntKind.i64.wrap ((i : Int) + 1) = (i : Int) + 1 := q0w (by omega) (by omega)
   have hdr : l.drop i = x :: l.drop (i + 1) := by
    obtain ⟨h5, h6⟩ := List.getElem?_eq_some_iff.1 hx
    rw [List.drop_eq_getElem_cons h5, h6]
   rw [hdr, q3d, j6f] at hGi
   have hhl : (hsE es ++ [q0p n] ++ new.map q0p).length = es.length + 1 + new.length := by simp [hsE]; omega
   have hxp : (l.map JT.cells)[i]? = some x.cells := by rw [List.getElem?_map, hx]; rfl
   rw [q0m x] at hxp
   have hilt : (i : Int) < (l.length : Int) := by omega
   obtain ⟨g, hgf, hFd⟩ := z1y x (hxs x hxm) fs (by omega)
   unfold xFs at hFd
   have hat : ∀ new : List NT, ((rA EN.cells (rE n es new)).set es.length (opF (r0 n) 240 fs.length))[es.length]? = some [.c (.v (.int .i64 n.kind)), .c (.v (.string (str n.name))), .c (.sl 1 (n.aliases.map sPV)), .row 240 fs.length, .c (.sl 1 (n.symbols.map sPV)), .c (.v (.bool n.has)), .c (.v (.string (str n.dflt))), .c (.v (.int .i64 n.size)), .c (.v (.int .i64 n.items)), .c (.sl 1 (n.branches.map iPV))] := fun new => (List.getElem?_set_self (by rw [q0a, q2x]; omega)).trans (congrArg some (rC_eq n 240 fs.length))
   have h0l : (0 : Int) ≤ (es.length : Int) := by omega
   have hll : ∀ new : List NT, (es.length : Int) < ((es.length + 1 + new.length : Nat) : Int) := fun new => by omega
   have hatn := hat new
   have hlln := hll new
   by_cases h1 : q29 0 x fs = 0
   rotate_left
   · rw [q16 h1] at hGi
     injection hGi with hGi
     subst hGi
     have hq : (q29 0 x fs != 0) = true := by simpa using h1
     clear hgf h1 hN hNx hErr hLen
     generalize q29 0 x fs = e1 at *
     rw [FT.av_eq, FT.cells, q0m g.dflt] at hFd
     rw [JT.av_eq x, q0m x] at hFd
     generalize x.kd = x1 at *
     generalize x.num = x2 at *
     generalize x.txt = x3 at *
     generalize x.its = x4 at *
     generalize x.keys = x5 at *
     refine q0f (And.intro hxp (And.intro hilt (And.intro hatn (And.intro h0l (And.intro hlln (And.intro @q0s (And.intro @q0a hlen))))))) ?_
     refine q0i (And.intro @q0a (And.intro @q0b (And.intro @q0v (And.intro @q1k (And.intro @q0s hlen))))) [240] (hFd) ?_
     refine q0f (And.intro @q0s (And.intro @q0a (And.intro @q0b (And.intro @q0v (And.intro @q1k (And.intro hlen hq)))))) ?_
     refine q0j (@q0b) Tryz.results82 ?_
     exact ⟨.c _, .c _⟩
   rw [h1, q2p] at hGi
   simp only [] at hGi
   have hg := hgf h1
   rw [h1] at hFd
   subst hg
   clear hgf
   have hs : (jget x q0k).isSome = true := by
    cases hb : (jget x q0k).isSome with
    | true => rfl
    | false =>
      unfold q29 at h1
      rw [hb] at h1
      have := (j4k (by decide) h1).2
      simp at this
   obtain ⟨t, ht⟩ := Option.isSome_iff_exists.1 hs
   have hG2 := q4k x q0k
   rw [ht] at hG2 hGi
   simp only [Option.getD_some, Option.isSome_some] at hG2 hGi
   replace hNx := hNx t ht
   obtain ⟨f1, hf1⟩ : ∃ f1, f1 = (gt x q0x).txt := ⟨_, rfl⟩
   obtain ⟨f2, hf2⟩ : ∃ f2, f2 = q3i x id := ⟨_, rfl⟩
   obtain ⟨f4, hf4⟩ : ∃ f4, f4 = (jget x q1q).isSome := ⟨_, rfl⟩
   obtain ⟨f5, hf5⟩ : ∃ f5, f5 = gt x q1q := ⟨_, rfl⟩
   have hff : q6i x = ⟨f1, f2, 0, f4, f5⟩ := by rw [hf1, hf2, hf4, hf5]; rfl
   rw [hff] at hFd hGi
   clear hff hf1 hf2 hf4 hf5 hs ht h1 hN
   rw [FT.av_eq, FT.cells, q0m f5] at hFd
   simp only [] at hFd hGi
   rw [JT.av_eq x, q0m x] at hFd hG2
   rw [JT.av_eq t, q0m t] at hG2
   rw [q0k, q2h [116, 121, 112, 101]] at hG2
   cases hf : f (hsE es ++ [q0p n] ++ new.map q0p) t (q1n n.name) with
   | error e2 =>
     rw [hf] at hGi
     injection hGi with hGi
     subst hGi
     have q1 : (e2 != 0) = true := by simpa using hErr _ _ _ _ hf
     have hN1 := rNoS n es new fs (f := 39) (args := [.ref 1000000 1 0 0, t.av, .c (.v (.string (str (q1n n.name))))]) (j2x 0 e2) (fun E hEl hEh => (hNx E (by rw [hEl]; exact hnw)).no e2 (by rw [hEh]; exact hf))
     unfold xS xNF xFs at hN1
     rw [JT.av_eq t, q0m t] at hN1
     clear hNx hLen hErr
     generalize x.kd = x1 at *
     generalize x.num = x2 at *
     generalize x.txt = x3 at *
     generalize x.its = x4 at *
     generalize x.keys = x5 at *
     refine q0f (And.intro hxp (And.intro hilt (And.intro hatn (And.intro h0l (And.intro hlln (And.intro @q0s (And.intro @q0a hlen))))))) ?_
     refine q0i (And.intro @q0a (And.intro @q0b (And.intro @q0v (And.intro @q1k (And.intro @q0s hlen))))) [240] (hFd) ?_
     refine q0f (And.intro @q0s (And.intro @q0a (And.intro @q0b (And.intro @q0v (And.intro @q1k (And.intro hlen (And.intro hxp hilt))))))) ?_
     refine q0e (hG2) ?_
     refine q0d (And.intro @q0s (And.intro @q0a (And.intro @q0b (And.intro @q0v (And.intro @q1k hlen))))) ?_
     refine q0e (hSp) ?_
     refine q0d (And.intro @q0s (And.intro @q0a (And.intro @q0b (And.intro @q0v (And.intro @q1k hlen))))) ?_
     refine q0i (And.intro @q0a (And.intro @q0b (And.intro @q0v (And.intro @q1k (And.intro @q0s hlen))))) [1000000, 1000001, 240] (hN1) ?_
     refine q0f (And.intro @q0a (And.intro @q0b (And.intro @q0v (And.intro @q1k (And.intro @q0s q1))))) ?_
     refine q0j (@q0b) Tryz.results82 ?_
     exact ⟨.c _, .c _⟩
   | ok V =>
   obtain ⟨m, k⟩ := V
   rw [hf] at hGi
   simp only [] at hGi
   have hL := hLen _ _ _ _ _ (by rw [hhl]; exact hnw) hf
   rw [hhl] at hL
   have hN1 := rOpenS n es new fs m (f := 39) (args := [.ref 1000000 1 0 0, t.av, .c (.v (.string (str (q1n n.name))))]) (j2x k 0) (fun E hEl hEh => (hNx E (by rw [hEl]; exact hnw)).yes m k (by rw [hEh]; exact hf))
   unfold xS xNF xFs at hN1
   rw [JT.av_eq t, q0m t] at hN1
   clear hNx hf hErr
   have hlen2 : (rE n es (new ++ m)).length = es.length + 1 + (new ++ m).length := q2x n es (new ++ m)
   have hone : rA FT.cells fs ++ [[.c (.v (.string (str f1))), .c (.sl 1 (f2.map sPV)), .c (.v (.int .i64 k)), .c (.v (.bool f4)), .c (.v (.int .i64 f5.kd)), .c (.v (.int .i64 f5.num)), .c (.v (.string (str f5.txt))), .c (.sl 5 (f5.its.map JT.cells)), .c (.sl 1 (f5.keys.map sPV))]] = rA FT.cells (fs ++ [⟨f1, f2, k, f4, f5⟩]) := by
    have h := q58 FT.cells fs ⟨f1, f2, k, f4, f5⟩
    rw [FT.cells, q0m f5] at h
    exact h
   have hatm := hat (new ++ m)
   have hllm := hll (new ++ m)
   generalize x.kd = x1 at *
   generalize x.num = x2 at *
   generalize x.txt = x3 at *
   generalize x.its = x4 at *
   generalize x.keys = x5 at *
   refine q0f (And.intro hxp (And.intro hilt (And.intro hatn (And.intro h0l (And.intro hlln (And.intro @q0s (And.intro @q0a hlen))))))) ?_
   refine q0i (And.intro @q0a (And.intro @q0b (And.intro @q0v (And.intro @q1k (And.intro @q0s hlen))))) [240] (hFd) ?_
   refine q0f (And.intro @q0s (And.intro @q0a (And.intro @q0b (And.intro @q0v (And.intro @q1k (And.intro hlen (And.intro hxp hilt))))))) ?_
   refine q0e (hG2) ?_
   refine q0d (And.intro @q0s (And.intro @q0a (And.intro @q0b (And.intro @q0v (And.intro @q1k hlen))))) ?_
   refine q0e (hSp) ?_
   refine q0d (And.intro @q0s (And.intro @q0a (And.intro @q0b (And.intro @q0v (And.intro @q1k hlen))))) ?_
   refine q0i (And.intro @q0a (And.intro @q0b (And.intro @q0v (And.intro @q1k (And.intro @q0s (And.intro hlen hlen2)))))) [1000000, 1000001, 240] (hN1) ?_
   refine q0f (And.intro @q0s (And.intro @q0a (And.intro @q0b (And.intro @q0v (And.intro @q1k (And.intro hlen2 (And.intro hatm (And.intro h0l (And.intro hllm (And.intro hone (And.intro @q8u hwi))))))))))) ?_
   refine .next ⟨(i + 1, fs ++ [⟨f1, f2, k, f4, f5⟩], new ++ m), by simp only []; omega, by simp only [List.length_append, List.length_singleton]; omega, by simp only [List.length_append]; omega, hGi⟩ ?_ (by simp only []; omega)
   refine q1l (And.intro @q0a (And.intro @q0g (And.intro @q0b (And.intro @q0v (And.intro @q1k (And.intro @q0s (And.intro hlen2 (And.intro hscU (And.intro @q7r @q8v))))))))) ?_
   (repeat' apply And.intro) <;> first | exact Nat.le_refl _ | rfl | exact cI (by omega)
theorem z6j (es : List EN) (hl : es.length ≤ 200) (j : JT) (hj : j.sm 1000000) (n : NT) (hnl : n.name.length ≤ 1000000) (f : q18) (hErr : ErrB f) (hLen : LenB f)
  (hN : (gt j q0q).kd = 5 → ∀ x ∈ (gt j q0q).its, ∀ t, jget x q0k = some t → ∀ es' : List EN, es'.length ≤ 200 → RT 39 es' [t.av, .c (.v (.string (str (q1n n.name))))] (f (hsE es') t (q1n n.name))) :
  RT 82 es [j.av, (r0 n).av] (q6r f (hsE es) j n) := by
 have hsl := hs_len es
 unfold q6r
 rw [show (jget j q0q).getD q39 = gt j q0q from rfl]
 by_cases hk : (gt j q0q).kd ≠ 5
 · rw [if_pos hk]
   refine ⟨fun new k h => by simp at h, fun e h => ?_⟩
   injection h with h
   subst h
   have q1 : ((gt j q0q).kd != 5) = true := by simpa using hk
   have hG := q4k j q0q
   rw [show (jget j q0q).getD zJ = gt j q0q from rfl] at hG
   clear hN hj hk hnl
   generalize (jget j q0q).isSome = bj at *
   generalize gt j q0q = w at *
   rw [EN.av_eq, q2v]
   rw [JT.av_eq w, q0m w] at hG
   rw [JT.av_eq, q0m] at hG ⊢
   generalize j.kd = j1 at *
   generalize j.num = j2 at *
   generalize j.txt = j3 at *
   generalize j.its = j4 at *
   generalize j.keys = j5 at *
   generalize w.kd = w1 at *
   generalize w.num = w2 at *
   generalize w.txt = w3 at *
   generalize w.its = l at *
   generalize w.keys = w5 at *
   rw [q0q, q2h [102, 105, 101, 108, 100, 115]] at hG
   unfold xS xN
   refine VC.toldXF (And.intro @q0a @q0g) j28 [] Tryz.func82 rfl Tryz.ntmps82 fun hb hbL => ?_
   clear hb hbL
   refine q0c ?_
   refine q0e (hG) ?_
   refine q0f (q1) ?_
   refine q0j (@q0b) Tryz.results82 ?_
   exact ⟨.c _, .c _⟩
 have hk5 : (gt j q0q).kd = 5 := by simpa using hk
 replace hN := hN hk5
 rw [if_neg hk]
 by_cases h40 : 40 < (gt j q0q).its.length
 · rw [if_pos h40]
   refine ⟨fun new k h => by simp at h, fun e h => ?_⟩
   injection h with h
   subst h
   have q1 : ((gt j q0q).kd != 5) = false := by simpa using hk
   have q2 : decide (((gt j q0q).its.length : Int) > 40) = true := by simp; omega
   have hG := q4k j q0q
   rw [show (jget j q0q).getD zJ = gt j q0q from rfl] at hG
   clear hN hj hk hnl hk5 h40
   generalize (jget j q0q).isSome = bj at *
   generalize gt j q0q = w at *
   rw [EN.av_eq, q2v]
   rw [JT.av_eq w, q0m w] at hG
   rw [JT.av_eq, q0m] at hG ⊢
   generalize j.kd = j1 at *
   generalize j.num = j2 at *
   generalize j.txt = j3 at *
   generalize j.its = j4 at *
   generalize j.keys = j5 at *
   generalize w.kd = w1 at *
   generalize w.num = w2 at *
   generalize w.txt = w3 at *
   generalize w.its = l at *
   generalize w.keys = w5 at *
   rw [q0q, q2h [102, 105, 101, 108, 100, 115]] at hG
   unfold xS xN
   refine VC.toldXF (And.intro @q0a @q0g) j28 [] Tryz.func82 rfl Tryz.ntmps82 fun hb hbL => ?_
   clear hb hbL
   refine q0c ?_
   refine q0e (hG) ?_
   refine q0f (And.intro q1 q2) ?_
   refine q0j (@q0b) Tryz.results82 ?_
   exact ⟨.c _, .c _⟩
 rw [if_neg h40]
 by_cases h200 : 200 ≤ (hsE es).length
 · rw [if_pos h200]
   refine ⟨fun new k h => by simp at h, fun e h => ?_⟩
   injection h with h
   subst h
   have hY := z12 es (by omega) (r0 n)
   have q1 : ((gt j q0q).kd != 5) = false := by simpa using hk
   have q2 : decide (((gt j q0q).its.length : Int) > 40) = false := by simp; omega
   have hG := q4k j q0q
   rw [show (jget j q0q).getD zJ = gt j q0q from rfl] at hG
   clear hN hj hk hnl hk5 h40
   generalize (jget j q0q).isSome = bj at *
   generalize gt j q0q = w at *
   rw [EN.av_eq, q2v] at hY ⊢
   rw [JT.av_eq w, q0m w] at hG
   rw [JT.av_eq, q0m] at hG ⊢
   generalize j.kd = j1 at *
   generalize j.num = j2 at *
   generalize j.txt = j3 at *
   generalize j.its = j4 at *
   generalize j.keys = j5 at *
   generalize w.kd = w1 at *
   generalize w.num = w2 at *
   generalize w.txt = w3 at *
   generalize w.its = l at *
   generalize w.keys = w5 at *
   rw [q0q, q2h [102, 105, 101, 108, 100, 115]] at hG
   unfold xS xN at hY ⊢
   refine VC.toldXF (And.intro @q0a @q0g) j28 [] Tryz.func82 rfl Tryz.ntmps82 fun hb hbL => ?_
   clear hb hbL
   refine q0c ?_
   refine q0e (hG) ?_
   refine q0f (And.intro q1 q2) ?_
   refine q0i (And.intro @q0a @q0b) [1000000, 1000001] (hY) ?_
   refine q0f (And.intro @q0a @q0b) ?_
   refine q0j (@q0b) Tryz.results82 ?_
   exact ⟨.c _, .c _⟩
 rw [if_neg h200]
 refine ⟨fun new k h => ?_, fun e h => ?_⟩
 · cases hU : q3d f (hsE es ++ [q0p n]) (q1n n.name) (gt j q0q).its [] [] with
   | error e => rw [hU] at h; simp at h
   | ok V =>
     obtain ⟨fs', new'⟩ := V
     rw [hU] at h
     injection h with h
     injection h with h3 h4
     subst h3 h4
     rw [hsl]
     exact z6k es (by omega) j hj hk5 (by omega) n hnl f hErr hLen hN fs' new' hU
 · cases hU : q3d f (hsE es ++ [q0p n]) (q1n n.name) (gt j q0q).its [] [] with
   | ok V => rw [hU] at h; simp at h
   | error e2 =>
     rw [hU] at h
     injection h with h
     subst h
     exact z6i es (by omega) j hj hk5 (by omega) n hnl f hErr hLen hN e2 hU

noncomputable def ceq {α : Type} (a b : α) : Bool := @decide (a = b) (Classical.propDecidable _)
theorem j24 {α : Type} (a b : α) : ceq a b = true ↔ a = b := by simp [ceq]
theorem ceq_false {α : Type} (a b : α) : ceq a b = false ↔ a ≠ b := by simp [ceq]
theorem j9n {α : Type} (a : α) : ceq a a = true := (j24 a a).2 rfl

theorem ceq_field (a b : FT) : ceq a b = ((((a.name == b.name) && (a.aliases == b.aliases)) && (a.type == b.type)) && (a.has == b.has) && jeq a.dflt b.dflt) := by
 rw [Bool.eq_iff_iff]
 simp only [j24, Bool.and_eq_true, beq_iff_eq, j6w]
 constructor
 · rintro rfl
   exact ⟨⟨⟨⟨rfl, rfl⟩, rfl⟩, rfl⟩, rfl⟩
 · rintro ⟨⟨⟨⟨h1, h2⟩, h3⟩, h4⟩, h5⟩
   cases a
   cases b
   simp_all
theorem ceq_node (a b : NT) : ceq a b = ((((((((((a.kind == b.kind) && (a.name == b.name)) && (a.aliases == b.aliases)) && ceq a.fields b.fields) && (a.symbols == b.symbols)) && (a.has == b.has)) && (a.dflt == b.dflt)) && (a.size == b.size)) && (a.items == b.items)) && (a.branches == b.branches)) := by
 rw [Bool.eq_iff_iff]
 simp only [j24, Bool.and_eq_true, beq_iff_eq]
 constructor
 · rintro rfl
   simp
 · rintro ⟨⟨⟨⟨⟨⟨⟨⟨⟨h1, h2⟩, h3⟩, h4⟩, h5⟩, h6⟩, h7⟩, h8⟩, h9⟩, h10⟩
   cases a
   cases b
   simp_all

theorem z6n : ∀ (m : Nat) (a b : JT), SizeOf.sizeOf a ≤ m → Told Tryz.prog 86 [a.av, b.av] (.c (.v (.bool (jeq a b)))) := by
 intro m
 induction m with
 | zero => intro a b ha; cases a; simp at ha
 | succ m ih =>
 intro a b ha
 cases a with
 | mk k n s ks xs =>
 cases b with
 | mk k' n' s' ks' xs' =>
 refine VC.told ent_86 Tryz.func86 rfl Tryz.ntmps86 (by simp) rfl rfl fun hb => ?_
 simp only [JT.av, q0t, List.map_cons, List.map_nil, q8f, q47, q81, q5d, List.mem_cons, List.not_mem_nil, or_false, forall_eq_or_imp, forall_eq, true_and, List.length_map] at hb ⊢
 have hx1 := hb.1.1.1
 have hk1 := hb.1.2.1
 clear hb
 refine q0d (@q2i) ?_
 refine VC.cond (by rfl) (by trivial) (fun hc => ?_) (fun hc => ?_)
 · have hne : jeq (.mk k n s ks xs) (.mk k' n' s' ks' xs') = false := by
    rw [j6v]
    intro e
    injection e with e1 e2 e3 e4 e5
    subst e1 e2 e3 e4 e5
    simp at hc
   refine q0c ?_
   refine ⟨.inr rfl, ?_⟩
   rw [Tryz.results86, hne]
   simp only [q1x, resV, go_sem, simprocAttr]
   exact .c _
 · simp only [Bool.or_eq_false_iff, bne_eq_false_iff_eq, Bool.not_eq_false', beq_iff_eq] at hc
   obtain ⟨⟨⟨⟨rfl, rfl⟩, rfl⟩, hkl⟩, hxl⟩ := hc
   have hkl : ks.length = ks'.length := by omega
   have hxl : xs.length = xs'.length := by omega
   refine q0c ?_
   refine VC.loop (ι := {i : Nat // i ≤ ks.length ∧ ks.take i = ks'.take i}) (fun i => [(2, .ref 0 1 0 0), (3, .ref 8 1 0 0), (5, .c (.v (.int .i64 i.1)))])
    (fun _ => [(0, ⟨false, 25, 5, [(JT.mk k n s ks xs).cells.map .c]⟩), (8, ⟨false, 25, 5, [(JT.mk k n s ks' xs').cells.map .c]⟩)]) 16 (fun i => ks.length - i.1) ⟨0, Nat.zero_le _, rfl⟩ ?_ ?_
   · simp only [q0t, Weak, eq_self, q09, q03, sc_c, q05, q06, q07, q02, q04, ScL, q08, List.forall_mem_map, go_sem, Int.reduceBEq, Int.reduceLE, Int.reduceLT, Int.reduceNeg, Nat.reduceAdd, Nat.reduceEqDiff, Nat.reduceLT, Nat.reduceLeDiff, Nat.reduceMul, Nat.reduceSub, reduceCtorEq, ↓reduceIte]
     all_goals rfl
   rintro ⟨i, hi, ht⟩
   refine q0d (@q0t) ?_
   refine VC.cond (by rfl) (by trivial) (fun hc => ?_) (fun hc => ?_)
   · simp only [decide_eq_true_eq] at hc
     obtain ⟨x, hx⟩ : ∃ x, ks[i]? = some x := ⟨ks[i], List.getElem?_eq_getElem (by omega)⟩
     obtain ⟨y, hy⟩ : ∃ y, ks'[i]? = some y := ⟨ks'[i], List.getElem?_eq_getElem (by omega)⟩
     have hw : IntKind.i64.wrap ((i : Int) + 1) = (i : Int) + 1 := q0w (by omega) (by omega)
     have htn := z63 hx hy ht
     refine q0d (And.intro @q0t (And.intro @q4w (And.intro hx (And.intro hy (And.intro @q6a @q2i))))) ?_
     refine VC.cond (by rfl) (by trivial) (fun hc2 => ?_) (fun hc2 => ?_)
     · have hne : jeq (.mk k n s ks xs) (.mk k n s ks' xs') = false := by
        rw [j6v]
        intro e
        injection e with e1 e2 e3 e4 e5
        subst e4
        rw [hx] at hy
        obtain rfl := Option.some.inj hy
        simp at hc2
       refine q0c ?_
       refine ⟨.inr rfl, ?_⟩
       rw [Tryz.results86, hne]
       simp only [q1x, resV, go_sem, simprocAttr]
       exact .c _
     · have hxy : x = y := by simpa using hc2
       refine q0d (hw) ?_
       refine .next ⟨i + 1, by omega, htn.2 hxy⟩ ?_ (by simp only []; omega)
       refine q1l (@q0t) ?_
       exact cI (by omega)
   · simp only [decide_eq_false_iff_not] at hc
     obtain rfl : i = ks.length := by omega
     have hke : ks = ks' := by
      rw [List.take_length, hkl, List.take_length] at ht
      exact ht
     subst hke
     refine q0c ?_
     refine VC.loop (ι := {i : Nat // i ≤ xs.length ∧ xs.take i = xs'.take i}) (fun i => [(2, .ref 0 1 0 0), (3, .ref 8 1 0 0), (6, .c (.v (.int .i64 i.1)))])
      (fun _ => [(0, ⟨false, 25, 5, [(JT.mk k n s ks xs).cells.map .c]⟩), (8, ⟨false, 25, 5, [(JT.mk k n s ks xs').cells.map .c]⟩)]) 16 (fun i => xs.length - i.1) ⟨0, Nat.zero_le _, rfl⟩ ?_ ?_
     · simp only [q0t, Weak, eq_self, q09, q03, sc_c, q05, q06, q07, q02, q04, ScL, q08, List.forall_mem_map, go_sem, Int.reduceBEq, Int.reduceLE, Int.reduceLT, Int.reduceNeg, Nat.reduceAdd, Nat.reduceEqDiff, Nat.reduceLT, Nat.reduceLeDiff, Nat.reduceMul, Nat.reduceSub, reduceCtorEq, ↓reduceIte]
       all_goals rfl
     rintro ⟨i, hi, ht⟩
     refine q0d (@q0t) ?_
     refine VC.cond (by rfl) (by trivial) (fun hc => ?_) (fun hc => ?_)
     · simp only [decide_eq_true_eq] at hc
       obtain ⟨x, hx⟩ : ∃ x, xs[i]? = some x := ⟨xs[i], List.getElem?_eq_getElem (by omega)⟩
       obtain ⟨y, hy⟩ : ∃ y, xs'[i]? = some y := ⟨xs'[i], List.getElem?_eq_getElem (by omega)⟩
       have hw : IntKind.i64.wrap ((i : Int) + 1) = (i : Int) + 1 := q0w (by omega) (by omega)
       have hcl := ih x y (by
        have h1 := List.sizeOf_lt_of_mem (List.mem_of_getElem? hx)
        simp at ha
        omega)
       refine q0d (And.intro @q0t (And.intro @q4w (And.intro hx (And.intro hy (And.intro @q2n (And.intro @q3a @q2t)))))) ?_
       (refine AO.step fun K hK => ?_; simp only [go_sem, Int.reduceBEq, Int.reduceLE, Int.reduceLT, Int.reduceNeg, Nat.reduceAdd, Nat.reduceEqDiff, Nat.reduceLT, Nat.reduceLeDiff, Nat.reduceMul, Nat.reduceSub, reduceCtorEq, ↓reduceIte, q20]; (first | refine q1m ?_ | skip))
       refine .inl ⟨_, hcl, hK _ _ _ ?_⟩
       clear hK K
       refine q0c ?_
       refine VC.cond (by rfl) (by trivial) (fun hc2 => ?_) (fun hc2 => ?_)
       · have hne : jeq (.mk k n s ks xs) (.mk k n s ks xs') = false := by
          rw [j6v]
          intro e
          injection e with e1 e2 e3 e4 e5
          subst e5
          rw [hx] at hy
          obtain rfl := Option.some.inj hy
          rw [j6x] at hc2
          simp at hc2
         refine q0c ?_
         refine ⟨.inr rfl, ?_⟩
         rw [Tryz.results86, hne]
         simp only [q1x, resV, go_sem, simprocAttr]
         exact .c _
       · have hxy : x = y := by
          rw [← j6w]
          simpa using hc2
         refine q0d (hw) ?_
         refine .next ⟨i + 1, by omega, ?_⟩ ?_ (by simp only []; omega)
         · rw [List.take_add_one, List.take_add_one, hx, hy, ht, hxy]
         refine q1l (@q0t) ?_
         exact cI (by omega)
     · simp only [decide_eq_false_iff_not] at hc
       obtain rfl : i = xs.length := by omega
       have heq : xs = xs' := by
        rw [List.take_length, hxl, List.take_length] at ht
        exact ht
       subst heq
       refine q0c ?_
       refine ⟨.inr rfl, ?_⟩
       rw [Tryz.results86, j6x]
       simp only [q1x, resV, go_sem, simprocAttr]
       exact .c _

theorem j74 {α : Type} {ks ls : List α} {i : Nat} {x y : α} (hx : ks[i]? = some x) (hy : ls[i]? = some y) (h : ks.take i = ls.take i) (e : x = y) : ks.take (i + 1) = ls.take (i + 1) := by
 rw [List.take_add_one, List.take_add_one, hx, hy, h, e]
theorem ne_at {α : Type} {ks ls : List α} {i : Nat} {x y : α} (hx : ks[i]? = some x) (hy : ls[i]? = some y) (h : x ≠ y) : ks ≠ ls := by
 rintro rfl
 rw [hx] at hy
 exact h (Option.some.inj hy)
theorem j73 {α : Type} {ks ls : List α} {i : Nat} (h : ks.take i = ls.take i) (h1 : i = ks.length) (h2 : ks.length = ls.length) : ks = ls := by
 rw [h1, List.take_length, h2, List.take_length] at h
 exact h
theorem j7u (ks ls : List (List UInt8)) : Told Tryz.prog 85 [.c (.sl 1 (ks.map sPV)), .c (.sl 1 (ls.map sPV))] (.c (.v (.bool (ks == ls)))) := by
 obtain ⟨V, hV⟩ : ∃ V, V = (ks == ls) := ⟨_, rfl⟩
 rw [← hV]
 refine VC.toldP ent_85 Tryz.func85 rfl Tryz.ntmps85 fun hb => ?_
 simp only [q47, q5d, List.mem_cons, List.not_mem_nil, or_false, forall_eq_or_imp, forall_eq, true_and, List.length_map] at hb
 have hkb := hb.1.1
 clear hb
 refine q0c ?_
 refine VC.cond (by rfl) (by trivial) (fun hc => ?_) (fun hc => ?_)
 · have hf : V = false := by
    rw [hV, beq_eq_false_iff_ne]
    rintro rfl
    simp at hc
   subst hf
   refine q0c ?_
   refine retX Tryz.results85 ?_
   exact .c _
 have hll : ks.length = ls.length := by simp at hc; omega
 refine q0c ?_
 refine VC.loop (ι := {i : Nat // i ≤ ks.length ∧ ks.take i = ls.take i}) (fun q => [(0, .c (.sl 1 (ks.map sPV))), (1, .c (.sl 1 (ls.map sPV))), (5, .c (.v (.int .i64 (q.1 : Int))))]) (fun _ => []) 800 (fun q => ks.length - q.1) ⟨0, Nat.zero_le _, rfl⟩ ?_ ?_
 · exact q4r
 rintro ⟨i, hi, ht⟩
 simp only []
 refine q0c ?_
 refine VC.cond (by rfl) (by trivial) (fun hc2 => ?_) (fun hc2 => ?_)
 · have hlt : i < ks.length := by simp at hc2; omega
   obtain ⟨x, hx⟩ : ∃ x, ks[i]? = some x := ⟨ks[i], List.getElem?_eq_getElem hlt⟩
   obtain ⟨y, hy⟩ : ∃ y, ls[i]? = some y := ⟨ls[i]'(by omega), List.getElem?_eq_getElem (by omega)⟩
   have hw : IntKind.i64.wrap ((i : Int) + 1) = (i : Int) + 1 := q0w (by omega) (by omega)
   have hxp : (ks.map sPV)[i]? = some (sPV x) := by rw [List.getElem?_map, hx]; rfl
   have hyp : (ls.map sPV)[i]? = some (sPV y) := by rw [List.getElem?_map, hy]; rfl
   refine q0d (And.intro hxp (And.intro hyp (And.intro @q6a @q2i))) ?_
   refine VC.cond (by rfl) (by trivial) (fun hc3 => ?_) (fun hc3 => ?_)
   · have hf : V = false := by
      rw [hV, beq_eq_false_iff_ne]
      exact ne_at hx hy (by simpa using hc3)
     subst hf
     refine q0c ?_
     refine retX Tryz.results85 ?_
     exact .c _
   · have hxy : x = y := by simpa using hc3
     refine q0d (hw) ?_
     refine .next ⟨i + 1, by omega, j74 hx hy ht hxy⟩ ?_ (by simp only []; omega)
     simp only [Weak, eq_self, q09, q03, sc_c, q05, q06, q07, q02, q04, ScL, q08, List.forall_mem_map, go_sem, Int.reduceBEq, Int.reduceLE, Int.reduceLT, Int.reduceNeg, Nat.reduceAdd, Nat.reduceEqDiff, Nat.reduceLT, Nat.reduceLeDiff, Nat.reduceMul, Nat.reduceSub, reduceCtorEq, ↓reduceIte]
     try exact cI (by omega)
 · have hie : i = ks.length := by simp at hc2; omega
   have hf : V = true := by
    rw [hV, beq_iff_eq]
    exact j73 ht hie hll
   subst hf
   refine q0c ?_
   refine retX Tryz.results85 ?_
   exact .c _
theorem z5l {l : List (List UInt8)} {i : Nat} {x : List UInt8} (hx : l[i]? = some x) (h : (l.take i).Nodup) (hn : ∀ (k : Nat) (y : List UInt8), k < i → l[k]? = some y → y ≠ x) : (l.take (i + 1)).Nodup := by
 rw [List.take_add_one, hx]
 simp only [Option.toList_some]
 rw [List.nodup_append]
 refine ⟨h, by simp, fun a ha b hb => ?_⟩
 obtain rfl := List.mem_singleton.1 hb
 obtain ⟨k, hk⟩ := List.getElem?_of_mem ha
 rw [List.getElem?_take] at hk
 split at hk
 · rename_i hki
   exact hn k a hki hk
 · simp at hk
theorem nodup_ne {l : List (List UInt8)} (h : l.Nodup) {i k : Nat} {x y : List UInt8} (hx : l[i]? = some x) (hy : l[k]? = some y) (hk : k < i) : y ≠ x := by
 obtain ⟨h1, rfl⟩ := List.getElem?_eq_some_iff.1 hx
 obtain ⟨h2, rfl⟩ := List.getElem?_eq_some_iff.1 hy
 intro e
 exact List.pairwise_iff_getElem.1 h k i h2 h1 hk e
theorem j5b (l : List (List UInt8)) (hl : l.length ≤ 1000000000) : Told Tryz.prog 138 [.c (.sl 1 (l.map sPV))] (.c (.v (.bool (decide l.Nodup)))) := by
 obtain ⟨V, hV⟩ : ∃ V, V = decide l.Nodup := ⟨_, rfl⟩
 rw [← hV]
 refine VC.toldP ent_138 Tryz.func138 rfl Tryz.ntmps138 fun hb => ?_
 clear hb
 refine q0c ?_
 refine VC.loop (ι := {i : Nat // i ≤ l.length ∧ (l.take i).Nodup}) (fun q => [(0, .c (.sl 1 (l.map sPV))), (3, .c (.v (.int .i64 (q.1 : Int))))]) (fun _ => []) 800 (fun q => l.length - q.1) ⟨0, Nat.zero_le _, by simp⟩ ?_ ?_
 · exact q4r
 rintro ⟨i, hi, ht⟩
 simp only []
 refine q0c ?_
 refine VC.cond (by rfl) (by trivial) (fun hc => ?_) (fun hc => ?_)
 · have hlt : i < l.length := by simp at hc; omega
   obtain ⟨x, hx⟩ : ∃ x, l[i]? = some x := ⟨l[i], List.getElem?_eq_getElem hlt⟩
   have hw : IntKind.i64.wrap ((i : Int) + 1) = (i : Int) + 1 := q0w (by omega) (by omega)
   have hxp : (l.map sPV)[i]? = some (sPV x) := by rw [List.getElem?_map, hx]; rfl
   refine q0c ?_
   refine VC.loop (ι := {k : Nat // k ≤ i ∧ ∀ (j : Nat) (y : List UInt8), j < k → l[j]? = some y → y ≠ x}) (fun q => [(0, .c (.sl 1 (l.map sPV))), (3, .c (.v (.int .i64 (i : Int)))), (4, .c (.v (.int .i64 (q.1 : Int))))]) (fun _ => []) 800 (fun q => i - q.1) ⟨0, Nat.zero_le _, fun j y h => by omega⟩ ?_ ?_
   · exact q4r
   rintro ⟨k, hk, hn⟩
   simp only []
   refine q0c ?_
   refine VC.cond (by rfl) (by trivial) (fun hc2 => ?_) (fun hc2 => ?_)
   · have hki : k < i := by simp at hc2; omega
     obtain ⟨y, hy⟩ : ∃ y, l[k]? = some y := ⟨l[k]'(by omega), List.getElem?_eq_getElem (by omega)⟩
     have hwk : IntKind.i64.wrap ((k : Int) + 1) = (k : Int) + 1 := q0w (by omega) (by omega)
     have hyp : (l.map sPV)[k]? = some (sPV y) := by rw [List.getElem?_map, hy]; rfl
     refine q0d (And.intro hxp (And.intro hyp (And.intro @q6a @q2i))) ?_
     refine VC.cond (by rfl) (by trivial) (fun hc3 => ?_) (fun hc3 => ?_)
     · have hf : V = false := by
        rw [hV, decide_eq_false_iff_not]
        intro hd
        exact nodup_ne hd hx hy hki (by simpa using hc3)
       subst hf
       refine q0c ?_
       refine retX Tryz.results138 ?_
       exact .c _
     · have hyx : y ≠ x := by simpa using hc3
       refine q0d (hwk) ?_
       refine .next ⟨k + 1, by omega, ?_⟩ ?_ (by simp only []; omega)
       · intro j z hj hz
         by_cases hji : j < k
         · exact hn j z hji hz
         · obtain rfl : j = k := by omega
           rw [hy] at hz
           obtain rfl := Option.some.inj hz
           exact hyx
       simp only [Weak, eq_self, q09, q03, sc_c, q05, q06, q07, q02, q04, ScL, q08, List.forall_mem_map, go_sem, Int.reduceBEq, Int.reduceLE, Int.reduceLT, Int.reduceNeg, Nat.reduceAdd, Nat.reduceEqDiff, Nat.reduceLT, Nat.reduceLeDiff, Nat.reduceMul, Nat.reduceSub, reduceCtorEq, ↓reduceIte]
       try exact cI (by omega)
   · have hke : k = i := by simp at hc2; omega
     subst hke
     refine q0d (hw) ?_
     refine .next ⟨k + 1, by omega, z5l hx ht hn⟩ ?_ (by simp only []; omega)
     simp only [Weak, eq_self, q09, q03, sc_c, q05, q06, q07, q02, q04, ScL, q08, List.forall_mem_map, go_sem, Int.reduceBEq, Int.reduceLE, Int.reduceLT, Int.reduceNeg, Nat.reduceAdd, Nat.reduceEqDiff, Nat.reduceLT, Nat.reduceLeDiff, Nat.reduceMul, Nat.reduceSub, reduceCtorEq, ↓reduceIte]
     try exact cI (by omega)
 · have hie : i = l.length := by simp at hc; omega
   have hf : V = true := by
    rw [hV, decide_eq_true_eq]
    rw [hie, List.take_length] at ht
    exact ht
   subst hf
   refine q0c ?_
   refine retX Tryz.results138 ?_
   exact .c _

theorem j3i {l : List (List UInt8)} {i : Nat} {s : List UInt8} (hs : l[i]? = some s) (h : (l.take i).Nodup) : decide (l.take (i + 1)).Nodup = !decide (s ∈ l.take i) := by
 rw [List.take_add_one, hs, Option.toList_some]
 by_cases hm : s ∈ l.take i
 · rw [decide_eq_true hm, decide_eq_false]
   · rfl
   · intro hn
     rw [List.nodup_append] at hn
     exact hn.2.2 s hm s (by simp) rfl
 · rw [decide_eq_false hm, decide_eq_true]
   · rfl
   · rw [List.nodup_append]
     refine ⟨h, by simp, fun a ha b hb e => ?_⟩
     obtain rfl := List.mem_singleton.1 hb
     exact hm (e ▸ ha)
theorem z1b {l : List (List UInt8)} {d : List UInt8} (h : l.Nodup) : decide (l ++ [d]).Nodup = !decide (d ∈ l) := by
 have := j3i (l := l ++ [d]) (i := l.length) (s := d) (by simp) (by simpa using h)
 rw [List.take_of_length_le (by simp), List.take_left] at this
 exact this
theorem oView (l : List (List UInt8)) (d : List UInt8) {h : Nat → Option Blkd} {m : Nat} (hB : h 2224 = some ⟨true, 9, 1, (l.map sPV).map (fun e => e.map .c) ++ [[.c (.v (.string (str d)))]]⟩) (hm : m = l.length + 1) {k : Nat} {x z : AV}
  (h5 : ([.row 2224 m] : List AV)[k]? = some x) (h6 : ([.c (.sl 1 ((l ++ [d]).map sPV))] : List AV)[k]? = some z) : View h x z := by
 have hX : (l.map sPV).map (fun e => e.map AV.c) ++ [[.c (.v (.string (str d)))]] = rA sPV (l ++ [d]) := by simp [rA, sPV]
 rw [hX] at hB
 match k with
 | 0 =>
   obtain rfl := Option.some.inj h5
   obtain rfl := Option.some.inj h6
   exact View.row (B := ⟨true, 9, 1, rA sPV (l ++ [d])⟩) (es := (l ++ [d]).map sPV) hB rfl (by rw [hm]; show (rA sPV (l ++ [d])).length = _; rw [q0a]; simp) (q4p _ _)
 | k + 1 => simp at h5
theorem renum_rt (es : List EN) (hl : es.length ≤ 200) (j : JT) (hj : j.sm 1000000) (n : NT) (hn : n.has = false) : RT 83 es [j.av, (EN.of n).av] (q63 (hsE es) j n) := by
 have hG := q4k j q1j
 have hno := j7t (gt j q1j) (q17 (q2o hj q1j)).2.1
 have hyes := z2b (gt j q1j)
 have hD := q4k j q1q
 have hT := q5v j q1q
 have hls : ∀ s ∈ (gt j q1j).its.map JT.txt, s.length ≤ 1000000 := fun s hs => by
  obtain ⟨x, h1, rfl⟩ := List.mem_map.1 hs
  exact (q17 ((q17 (q2o hj q1j)).2.2 x h1)).1
 have hll : ((gt j q1j).its.map JT.txt).length ≤ 1000000 := by rw [List.length_map]; exact (q17 (q2o hj q1j)).2.1
 unfold q63
 rw [show (jget j q1j).getD q39 = gt j q1j from rfl, j68, q74]
 rw [show (jget j q1j).getD zJ = gt j q1j from rfl] at hG
 rw [show (jget j q1q).getD zJ = gt j q1q from rfl] at hD
 have hF0 := j49 es hl { n with symbols := (gt j q1j).its.map JT.txt }
 have hF1 := fun d => j49 es hl { n with symbols := (gt j q1j).its.map JT.txt, has := true, dflt := d }
 clear hj
 generalize (jget j q1j).isSome = bj at *
 generalize q2u 0 (gt j q1j) = e1 at *
 generalize (gt j q1j).its.map JT.txt = l at *
 generalize gt j q1j = w at *
 obtain ⟨D, hDD⟩ : ∃ D, D = jget j q1q := ⟨_, rfl⟩
 rw [← hDD] at hD ⊢
 clear hDD
 generalize gt j q1q = y at *
 simp only [EN.av_eq, q68] at hF0 hF1 ⊢
 rw [JT.av_eq w, q0m w] at hG hno hyes
 rw [JT.av_eq y, q0m y] at hD
 rw [JT.av_eq j, q0m j] at *
 generalize j.kd = j1 at *
 generalize j.num = j2 at *
 generalize j.txt = j3 at *
 generalize j.its = j4 at *
 generalize j.keys = j5 at *
 generalize w.kd = w1 at *
 generalize w.num = w2 at *
 generalize w.txt = w3 at *
 generalize w.its = w4 at *
 generalize w.keys = w5 at *
 generalize y.kd = y1 at *
 generalize y.num = y2 at *
 generalize y.txt = d at *
 generalize y.its = y4 at *
 generalize y.keys = y5 at *
 replace hF1 := hF1 d
 rw [q1j, q2h [115, 121, 109, 98, 111, 108, 115]] at hG
 rw [q1q, q2h [100, 101, 102, 97, 117, 108, 116]] at hD hT
 by_cases he1 : e1 = 0
 rotate_left
 · have q1 : (e1 != 0) = true := by simpa using he1
   replace hno := hno he1
   rw [q16 he1]
   refine ⟨fun new p h => by simp at h, fun e h => ?_⟩
   injection h with h
   subst h
   unfold xS xN
   refine VC.toldXF (And.intro @q0a @q0g) j4i [] Tryz.func83 rfl Tryz.ntmps83 fun hb hbL => ?_
   clear hb hbL
   refine q0c ?_
   refine q0e (hG) ?_
   refine q0u ?_
   refine q0e (hno) ?_
   refine q0f (q1) ?_
   refine q0j (@q0b) Tryz.results83 ?_
   exact ⟨.c _, .c _⟩
 replace hyes := hyes he1
 subst he1
 clear hno
 rw [q2p]
 simp only []
 by_cases hnil : l = []
 · subst hnil
   rw [if_pos rfl]
   refine ⟨fun new p h => by simp at h, fun e h => ?_⟩
   injection h with h
   subst h
   unfold xS xN
   refine VC.toldXF (And.intro @q0a @q0g) j4i [] Tryz.func83 rfl Tryz.ntmps83 fun hb hbL => ?_
   clear hb hbL
   refine q0c ?_
   refine q0e (hG) ?_
   refine q0u ?_
   refine q0e (hyes) ?_
   refine q0u ?_
   refine q0j (@q0b) Tryz.results83 ?_
   exact ⟨.c _, .c _⟩
 rw [if_neg hnil]
 have q2 : ((l.length : Int) == 0) = false := beq_eq_false_iff_ne.2 (by
  intro h
  exact hnil (List.length_eq_zero_iff.1 (by omega)))
 refine ⟨fun new p h => ?_, fun e h => ?_⟩
 · have hL : ∀ (i : Nat) (s : List UInt8), l[i]? = some s → q3p (l.take i) (l.drop i) = if q1h s = false then .error 31 else if s ∈ l.take i then .error 36 else q3p (l.take (i + 1)) (l.drop (i + 1)) := fun i s hs => by
    obtain ⟨h5, h6⟩ := List.getElem?_eq_some_iff.1 hs
    rw [List.drop_eq_getElem_cons h5, h6, q3p, List.take_add_one, hs]
    rfl
   have hlen : ∀ (X : List EN) , True := fun _ => trivial
   clear hlen
   generalize hes : es ++ new.map EN.of = es' at *
   unfold xS xN
   refine VC.toldXF (And.intro @q0a @q0g) j4i [] Tryz.func83 rfl Tryz.ntmps83 fun hb hbL => ?_
   clear hb hbL
   refine q0c ?_
   refine q0e (hG) ?_
   refine q0u ?_
   refine q0e (hyes) ?_
   refine q0f (q2) ?_
   refine VC.loop (ι := {i : Nat // i ≤ l.length ∧ q3p (l.take i) (l.drop i) = q3p [] l ∧ (l.take i).Nodup}) (fun q => [(0, .ref 1000000 1 0 0), (4, .ref 0 1 0 0), (5, .ref 8 1 0 0), (10, .c (.sl 1 (l.map sPV))), (12, .c (.v (.int .i64 (q.1 : Int))))])
    (fun q => [(1000000, ⟨false, 66, 2, [[.row 1000001 es.length, .c (.v (.int .i64 0))]]⟩), (1000001, ⟨true, 40, 10, rA EN.cells es⟩), (0, ⟨false, 25, 5, [[.c (.v (.int .i64 j1)), .c (.v (.int .i64 j2)), .c (.v (.string (str j3))), .c (.sl 5 (j4.map JT.cells)), .c (.sl 1 (j5.map sPV))]]⟩), (8, ⟨false, 40, 10, [[.c (.v (.int .i64 n.kind)), .c (.v (.string (str n.name))), .c (.sl 1 (n.aliases.map sPV)), .c (.sl 9 (n.fields.map FT.cells)), .c (.sl 1 (n.symbols.map sPV)), .c (.v (.bool n.has)), .c (.v (.string (str n.dflt))), .c (.v (.int .i64 n.size)), .c (.v (.int .i64 n.items)), .c (.sl 1 (n.branches.map iPV))]]⟩)]) 2000 (fun q => l.length - q.1) ⟨0, Nat.zero_le _, rfl, by simp⟩ ?_ ?_
   · simp only [q0a, q0g, Weak, eq_self, q09, q03, sc_c, q05, q06, q07, q02, q04, ScL, q08, List.forall_mem_map, go_sem, Int.reduceBEq, Int.reduceLE, Int.reduceLT, Int.reduceNeg, Nat.reduceAdd, Nat.reduceEqDiff, Nat.reduceLT, Nat.reduceLeDiff, Nat.reduceMul, Nat.reduceSub, reduceCtorEq, ↓reduceIte]
     all_goals first | rfl | exact Nat.le_refl _
   rintro ⟨i, hi, hsy, hnd⟩
   simp only []
   refine q0c ?_
   refine VC.cond (by rfl) (by trivial) (fun hc => ?_) (fun hc => ?_)
   · have hlt : i < l.length := by simp at hc; omega
     obtain ⟨s, hs⟩ : ∃ s, l[i]? = some s := ⟨l[i], List.getElem?_eq_getElem hlt⟩
     have hsp : (l.map sPV)[i]? = some [.v (.string (str s))] := by rw [List.getElem?_map, hs]; rfl
     have hil : (i : Int) < (l.length : Int) := by omega
     have hw : IntKind.i64.wrap ((i : Int) + 1) = (i : Int) + 1 := q0w (by omega) (by omega)
     have hS := q86 s (by have := hls s (List.mem_of_getElem? hs); omega)
     have hO := j5b (l.take (i + 1)) (by rw [List.length_take]; omega)
     have hlt2 : ¬ ((i : Int) + 1 < 0) := by omega
     have hle2 : (i : Int) + 1 ≤ (l.length : Int) := by omega
     have htn : ((i : Int) + 1).toNat = i + 1 := by omega
     have htk : (l.map sPV).take (i + 1) = (l.take (i + 1)).map sPV := List.map_take.symm
     have hstep := hL i s hs
     rw [hsy] at hstep
     by_cases hok : q1h s = false
     · rw [if_pos hok] at hstep
       rw [hstep] at h
       rw [hok] at hS
       simp at h
     rw [if_neg hok] at hstep
     rw [show q1h s = true by simpa using hok] at hS
     rw [j3i hs hnd] at hO
     by_cases hm : s ∈ l.take i
     · rw [if_pos hm] at hstep
       rw [hstep] at h
       rw [decide_eq_true hm, Bool.not_true] at hO
       simp at h
     rw [if_neg hm] at hstep
     have hnd2 : (l.take (i + 1)).Nodup := by
      have h9 := j3i hs hnd
      rw [decide_eq_false hm] at h9
      simpa using h9
     rw [decide_eq_false hm, Bool.not_false] at hO
     refine q0d (And.intro hsp hil) ?_
     refine q0e (hS) ?_
     refine q0f (And.intro hw (And.intro hlt2 (And.intro hle2 (And.intro htn htk)))) ?_
     refine q0e (hO) ?_
     refine q0f (hw) ?_
     refine .next ⟨i + 1, by omega, hstep.symm, hnd2⟩ ?_ (by simp only []; omega)
     refine q1l (And.intro @q0a @q0g) ?_
     (repeat' apply And.intro) <;> first | exact Nat.le_refl _ | rfl | exact cI (by omega)
   have hie : i = l.length := by simp at hc; omega
   subst hie
   have hsy2 := hsy
   have hnd2 := hnd
   rw [List.take_length, List.drop_length, q3p] at hsy2
   rw [List.take_length] at hnd2
   rw [← hsy2] at h
   simp only [] at h
   cases D with
   | none =>
     simp only [Option.isSome_none] at hD h
     have hY := hF0.yes new p h
     rw [hes] at hY
     rw [hn] at hY
     unfold xS xN at hY
     refine q0c ?_
     refine q0e (hD) ?_
     refine q0u ?_
     refine q0i (And.intro @q0a @q0b) [1000000, 1000001] (hY) ?_
     refine q0f (And.intro @q0a @q0b) ?_
     refine q0j (@q0b) Tryz.results83 ?_
     exact ⟨.c _, .c _⟩
   | some v =>
     simp only [Option.isSome_some] at hD h
     by_cases h4 : y1 = 4
     rotate_left
     · have q4 : (y1 != 4) = true := by simpa using h4
       have q5 : (y1 == 4) = false := by simpa using h4
       rw [q4, fl_t, q16 (by decide)] at h
       rw [q5] at hT
       simp at h
     have q4 : (y1 != 4) = false := by simpa using h4
     have q5 : (y1 == 4) = true := by simpa using h4
     rw [q4, fl_f, q2p] at h
     simp only [] at h
     rw [q5] at hT
     have hO := j5b (l ++ [d]) (by rw [List.length_append]; simp; omega)
     rw [z1b hnd2] at hO
     by_cases hm : d ∈ l
     rotate_left
     · rw [if_neg hm] at h
       rw [decide_eq_false hm, Bool.not_false] at hO
       simp at h
     rw [if_pos hm] at h
     rw [decide_eq_true hm, Bool.not_true] at hO
     have hY := hF1.yes new p h
     rw [hes] at hY
     unfold xS xN at hY
     refine q0c ?_
     refine q0e (hD) ?_
     refine q0u ?_
     refine q0e (hT) ?_
     refine q0u ?_
     (refine AO.step fun K hK => ?_; simp only [go_sem, Int.reduceBEq, Int.reduceLE, Int.reduceLT, Int.reduceNeg, Nat.reduceAdd, Nat.reduceEqDiff, Nat.reduceLT, Nat.reduceLeDiff, Nat.reduceMul, Nat.reduceSub, reduceCtorEq, ↓reduceIte]; (first | refine q1m ?_ | skip))
     refine .inr (.inl ⟨_, [.c (.sl 1 ((l ++ [d]).map sPV))], [2224], ⟨by rfl, by rfl, fun k x z h5 h6 => ?_, by rfl, hO⟩, hK _ _ _ ?_⟩)
     · exact oView l d (by rfl) (by simp) h5 h6
     clear hK K
     refine q0u ?_
     refine q0i (And.intro @q0a @q0b) [1000000, 1000001] (hY) ?_
     refine q0f (And.intro @q0a @q0b) ?_
     refine q0j (@q0b) Tryz.results83 ?_
     exact ⟨.c _, .c _⟩
 · have hL : ∀ (i : Nat) (s : List UInt8), l[i]? = some s → q3p (l.take i) (l.drop i) = if q1h s = false then .error 31 else if s ∈ l.take i then .error 36 else q3p (l.take (i + 1)) (l.drop (i + 1)) := fun i s hs => by
    obtain ⟨h5, h6⟩ := List.getElem?_eq_some_iff.1 hs
    rw [List.drop_eq_getElem_cons h5, h6, q3p, List.take_add_one, hs]
    rfl
   unfold xS xN
   refine VC.toldXF (And.intro @q0a @q0g) j4i [] Tryz.func83 rfl Tryz.ntmps83 fun hb hbL => ?_
   clear hb hbL
   refine q0c ?_
   refine q0e (hG) ?_
   refine q0u ?_
   refine q0e (hyes) ?_
   refine q0f (q2) ?_
   refine VC.loop (ι := {i : Nat // i ≤ l.length ∧ q3p (l.take i) (l.drop i) = q3p [] l ∧ (l.take i).Nodup}) (fun q => [(0, .ref 1000000 1 0 0), (4, .ref 0 1 0 0), (5, .ref 8 1 0 0), (10, .c (.sl 1 (l.map sPV))), (12, .c (.v (.int .i64 (q.1 : Int))))])
    (fun q => [(1000000, ⟨false, 66, 2, [[.row 1000001 es.length, .c (.v (.int .i64 0))]]⟩), (1000001, ⟨true, 40, 10, rA EN.cells es⟩), (0, ⟨false, 25, 5, [[.c (.v (.int .i64 j1)), .c (.v (.int .i64 j2)), .c (.v (.string (str j3))), .c (.sl 5 (j4.map JT.cells)), .c (.sl 1 (j5.map sPV))]]⟩), (8, ⟨false, 40, 10, [[.c (.v (.int .i64 n.kind)), .c (.v (.string (str n.name))), .c (.sl 1 (n.aliases.map sPV)), .c (.sl 9 (n.fields.map FT.cells)), .c (.sl 1 (n.symbols.map sPV)), .c (.v (.bool n.has)), .c (.v (.string (str n.dflt))), .c (.v (.int .i64 n.size)), .c (.v (.int .i64 n.items)), .c (.sl 1 (n.branches.map iPV))]]⟩)]) 2000 (fun q => l.length - q.1) ⟨0, Nat.zero_le _, rfl, by simp⟩ ?_ ?_
   · simp only [q0a, q0g, Weak, eq_self, q09, q03, sc_c, q05, q06, q07, q02, q04, ScL, q08, List.forall_mem_map, go_sem, Int.reduceBEq, Int.reduceLE, Int.reduceLT, Int.reduceNeg, Nat.reduceAdd, Nat.reduceEqDiff, Nat.reduceLT, Nat.reduceLeDiff, Nat.reduceMul, Nat.reduceSub, reduceCtorEq, ↓reduceIte]
     all_goals first | rfl | exact Nat.le_refl _
   rintro ⟨i, hi, hsy, hnd⟩
   simp only []
   refine q0c ?_
   refine VC.cond (by rfl) (by trivial) (fun hc => ?_) (fun hc => ?_)
   · have hlt : i < l.length := by simp at hc; omega
     obtain ⟨s, hs⟩ : ∃ s, l[i]? = some s := ⟨l[i], List.getElem?_eq_getElem hlt⟩
     have hsp : (l.map sPV)[i]? = some [.v (.string (str s))] := by rw [List.getElem?_map, hs]; rfl
     have hil : (i : Int) < (l.length : Int) := by omega
     have hw : IntKind.i64.wrap ((i : Int) + 1) = (i : Int) + 1 := q0w (by omega) (by omega)
     have hS := q86 s (by have := hls s (List.mem_of_getElem? hs); omega)
     have hO := j5b (l.take (i + 1)) (by rw [List.length_take]; omega)
     have hlt2 : ¬ ((i : Int) + 1 < 0) := by omega
     have hle2 : (i : Int) + 1 ≤ (l.length : Int) := by omega
     have htn : ((i : Int) + 1).toNat = i + 1 := by omega
     have htk : (l.map sPV).take (i + 1) = (l.take (i + 1)).map sPV := List.map_take.symm
     have hstep := hL i s hs
     rw [hsy] at hstep
     by_cases hok : q1h s = false
     · rw [if_pos hok] at hstep
       rw [hstep] at h
       rw [hok] at hS
       injection h with h
       subst h
       refine q0d (And.intro hsp hil) ?_
       refine q0e (hS) ?_
       refine q0u ?_
       refine q0j (@q0b) Tryz.results83 ?_
       exact ⟨.c _, .c _⟩
     rw [if_neg hok] at hstep
     rw [show q1h s = true by simpa using hok] at hS
     rw [j3i hs hnd] at hO
     by_cases hm : s ∈ l.take i
     · rw [if_pos hm] at hstep
       rw [hstep] at h
       rw [decide_eq_true hm, Bool.not_true] at hO
       injection h with h
       subst h
       refine q0d (And.intro hsp hil) ?_
       refine q0e (hS) ?_
       refine q0f (And.intro hw (And.intro hlt2 (And.intro hle2 (And.intro htn htk)))) ?_
       refine q0e (hO) ?_
       refine q0u ?_
       refine q0j (@q0b) Tryz.results83 ?_
       exact ⟨.c _, .c _⟩
     rw [if_neg hm] at hstep
     have hnd2 : (l.take (i + 1)).Nodup := by
      have h9 := j3i hs hnd
      rw [decide_eq_false hm] at h9
      simpa using h9
     rw [decide_eq_false hm, Bool.not_false] at hO
     refine q0d (And.intro hsp hil) ?_
     refine q0e (hS) ?_
     refine q0f (And.intro hw (And.intro hlt2 (And.intro hle2 (And.intro htn htk)))) ?_
     refine q0e (hO) ?_
     refine q0f (hw) ?_
     refine .next ⟨i + 1, by omega, hstep.symm, hnd2⟩ ?_ (by simp only []; omega)
     refine q1l (And.intro @q0a @q0g) ?_
     (repeat' apply And.intro) <;> first | exact Nat.le_refl _ | rfl | exact cI (by omega)
   have hie : i = l.length := by simp at hc; omega
   subst hie
   have hsy2 := hsy
   have hnd2 := hnd
   rw [List.take_length, List.drop_length, q3p] at hsy2
   rw [List.take_length] at hnd2
   rw [← hsy2] at h
   simp only [] at h
   cases D with
   | none =>
     simp only [Option.isSome_none] at hD h
     have hY := hF0.no e h
     rw [hn] at hY
     unfold xS xN at hY
     refine q0c ?_
     refine q0e (hD) ?_
     refine q0u ?_
     refine q0i (And.intro @q0a @q0b) [1000000, 1000001] (hY) ?_
     refine q0f (And.intro @q0a @q0b) ?_
     refine q0j (@q0b) Tryz.results83 ?_
     exact ⟨.c _, .c _⟩
   | some v =>
     simp only [Option.isSome_some] at hD h
     by_cases h4 : y1 = 4
     rotate_left
     · have q4 : (y1 != 4) = true := by simpa using h4
       have q5 : (y1 == 4) = false := by simpa using h4
       rw [q4, fl_t, q16 (by decide)] at h
       rw [q5] at hT
       injection h with h
       subst h
       refine q0c ?_
       refine q0e (hD) ?_
       refine q0u ?_
       refine q0e (hT) ?_
       refine q0u ?_
       refine q0j (@q0b) Tryz.results83 ?_
       exact ⟨.c _, .c _⟩
     have q4 : (y1 != 4) = false := by simpa using h4
     have q5 : (y1 == 4) = true := by simpa using h4
     rw [q4, fl_f, q2p] at h
     simp only [] at h
     rw [q5] at hT
     have hO := j5b (l ++ [d]) (by rw [List.length_append]; simp; omega)
     rw [z1b hnd2] at hO
     by_cases hm : d ∈ l
     rotate_left
     · rw [if_neg hm] at h
       rw [decide_eq_false hm, Bool.not_false] at hO
       injection h with h
       subst h
       refine q0c ?_
       refine q0e (hD) ?_
       refine q0u ?_
       refine q0e (hT) ?_
       refine q0u ?_
       (refine AO.step fun K hK => ?_; simp only [go_sem, Int.reduceBEq, Int.reduceLE, Int.reduceLT, Int.reduceNeg, Nat.reduceAdd, Nat.reduceEqDiff, Nat.reduceLT, Nat.reduceLeDiff, Nat.reduceMul, Nat.reduceSub, reduceCtorEq, ↓reduceIte]; (first | refine q1m ?_ | skip))
       refine .inr (.inl ⟨_, [.c (.sl 1 ((l ++ [d]).map sPV))], [2224], ⟨by rfl, by rfl, fun k x z h5 h6 => ?_, by rfl, hO⟩, hK _ _ _ ?_⟩)
       · exact oView l d (by rfl) (by simp) h5 h6
       clear hK K
       refine q0u ?_
       refine q0j (@q0b) Tryz.results83 ?_
       exact ⟨.c _, .c _⟩
     rw [if_pos hm] at h
     rw [decide_eq_true hm, Bool.not_true] at hO
     have hY := hF1.no e h
     unfold xS xN at hY
     refine q0c ?_
     refine q0e (hD) ?_
     refine q0u ?_
     refine q0e (hT) ?_
     refine q0u ?_
     (refine AO.step fun K hK => ?_; simp only [go_sem, Int.reduceBEq, Int.reduceLE, Int.reduceLT, Int.reduceNeg, Nat.reduceAdd, Nat.reduceEqDiff, Nat.reduceLT, Nat.reduceLeDiff, Nat.reduceMul, Nat.reduceSub, reduceCtorEq, ↓reduceIte]; (first | refine q1m ?_ | skip))
     refine .inr (.inl ⟨_, [.c (.sl 1 ((l ++ [d]).map sPV))], [2224], ⟨by rfl, by rfl, fun k x z h5 h6 => ?_, by rfl, hO⟩, hK _ _ _ ?_⟩)
     · exact oView l d (by rfl) (by simp) h5 h6
     clear hK K
     refine q0u ?_
     refine q0i (And.intro @q0a @q0b) [1000000, 1000001] (hY) ?_
     refine q0f (And.intro @q0a @q0b) ?_
     refine q0j (@q0b) Tryz.results83 ?_
     exact ⟨.c _, .c _⟩

theorem z6g (es : List EN) (j : JT) (a : List UInt8) (B : BR (List NT × Int)) (h4 : j.kd = 4) (hB : RT 75 es [.c (.v (.string (str j.txt))), .c (.v (.string (str a)))] B) : RT 39 es [j.av, .c (.v (.string (str a)))] B := by
 rw [JT.av_eq j, q0m j] at *
 generalize j.kd = j1 at *
 generalize j.num = j2 at *
 generalize j.txt = j3 at *
 generalize j.its = j4 at *
 generalize j.keys = j5 at *
 subst h4
 refine ⟨fun new p h => ?_, fun e h => ?_⟩
 · have hY := hB.yes new p h
   clear hB
   generalize es ++ new.map EN.of = es' at *
   unfold xS xN at *
   refine VC.toldXF (And.intro @q0a @q0g) q37 [] Tryz.func39 rfl Tryz.ntmps39 fun hb hbL => ?_
   clear hb hbL
   refine q0u ?_
   refine q0i (And.intro @q0a @q0b) [1000000, 1000001] (hY) ?_
   refine q0f (And.intro @q0a @q0b) ?_
   refine q0j (@q0b) Tryz.results39 ?_
   exact ⟨.c _, .c _⟩
 · have hY := hB.no e h
   clear hB
   unfold xS xN at *
   refine VC.toldXF (And.intro @q0a @q0g) q37 [] Tryz.func39 rfl Tryz.ntmps39 fun hb hbL => ?_
   clear hb hbL
   refine q0u ?_
   refine q0i (And.intro @q0a @q0b) [1000000, 1000001] (hY) ?_
   refine q0f (And.intro @q0a @q0b) ?_
   refine q0j (@q0b) Tryz.results39 ?_
   exact ⟨.c _, .c _⟩
theorem z6e (es : List EN) (j : JT) (a : List UInt8) (B : BR (List NT × Int)) (h5 : j.kd = 5) (hB : RT 76 es [.c (.sl 5 (j.its.map JT.cells)), .c (.v (.string (str a)))] B) : RT 39 es [j.av, .c (.v (.string (str a)))] B := by
 rw [JT.av_eq j, q0m j] at *
 generalize j.kd = j1 at *
 generalize j.num = j2 at *
 generalize j.txt = j3 at *
 generalize j.its = j4 at *
 generalize j.keys = j5 at *
 subst h5
 refine ⟨fun new p h => ?_, fun e h => ?_⟩
 · have hY := hB.yes new p h
   clear hB
   generalize es ++ new.map EN.of = es' at *
   unfold xS xN at *
   refine VC.toldXF (And.intro @q0a @q0g) q37 [] Tryz.func39 rfl Tryz.ntmps39 fun hb hbL => ?_
   clear hb hbL
   refine q0u ?_
   refine q0i (And.intro @q0a @q0b) [1000000, 1000001] (hY) ?_
   refine q0f (And.intro @q0a @q0b) ?_
   refine q0j (@q0b) Tryz.results39 ?_
   exact ⟨.c _, .c _⟩
 · have hY := hB.no e h
   clear hB
   unfold xS xN at *
   refine VC.toldXF (And.intro @q0a @q0g) q37 [] Tryz.func39 rfl Tryz.ntmps39 fun hb hbL => ?_
   clear hb hbL
   refine q0u ?_
   refine q0i (And.intro @q0a @q0b) [1000000, 1000001] (hY) ?_
   refine q0f (And.intro @q0a @q0b) ?_
   refine q0j (@q0b) Tryz.results39 ?_
   exact ⟨.c _, .c _⟩
theorem z6f (es : List EN) (j : JT) (a : List UInt8) (h4 : j.kd ≠ 4) (h5 : j.kd ≠ 5) (ht : ((gt j q0k).kd == 4) = false) : RT 39 es [j.av, .c (.v (.string (str a)))] (.error 30) := by
 have k4 : (j.kd == 4) = false := beq_eq_false_iff_ne.2 h4
 have k5 : (j.kd == 5) = false := beq_eq_false_iff_ne.2 h5
 have hT := q5v j q0k
 rw [ht] at hT
 rw [show str q0k = ⟨#[116, 121, 112, 101]⟩ from rfl] at hT
 generalize (gt j q0k).txt = w at *
 rw [JT.av_eq j, q0m j] at *
 generalize j.kd = j1 at *
 generalize j.num = j2 at *
 generalize j.txt = j3 at *
 generalize j.its = j4 at *
 generalize j.keys = j5 at *
 refine ⟨fun new p h => by simp at h, fun e h => ?_⟩
 injection h with h
 subst h
 unfold xS xN at *
 refine VC.toldXF (And.intro @q0a @q0g) q37 [] Tryz.func39 rfl Tryz.ntmps39 fun hb hbL => ?_
 clear hb hbL
 refine q0f (And.intro k4 k5) ?_
 refine q0e (hT) ?_
 refine q0u ?_
 refine q0j (@q0b) Tryz.results39 ?_
 exact ⟨.c _, .c _⟩
theorem rnode_arr (es : List EN) (j : JT) (a : List UInt8) (B : BR (List NT × Int)) (w : List UInt8) (h4 : j.kd ≠ 4) (h5 : j.kd ≠ 5) (ht : ((gt j q0k).kd == 4) = true) (hw : (gt j q0k).txt = w) (hk : (q0h w : Int) = 11) (hB : RT 79 es [j.av, .c (.v (.int .i64 11)), .c (.v (.string (str q61))), .c (.v (.string (str a)))] B) : RT 39 es [j.av, .c (.v (.string (str a)))] B := by
 have k4 : (j.kd == 4) = false := beq_eq_false_iff_ne.2 h4
 have k5 : (j.kd == 5) = false := beq_eq_false_iff_ne.2 h5
 have hT := q5v j q0k
 rw [hw] at hT
 rw [ht] at hT
 rw [show str q0k = ⟨#[116, 121, 112, 101]⟩ from rfl] at hT
 have hKd := q7c w
 have hNm := q6s (q0h w : Int)
 rw [show str q61 = ⟨#[105, 116, 101, 109, 115]⟩ from rfl] at hB
 have q11 : ((q0h w : Int) == 11) = true := beq_iff_eq.2 hk
 clear hk
 clear ht hw
 generalize (q0h w : Int) = kk at *
 rw [JT.av_eq j, q0m j] at *
 generalize j.kd = j1 at *
 generalize j.num = j2 at *
 generalize j.txt = j3 at *
 generalize j.its = j4 at *
 generalize j.keys = j5 at *
 refine ⟨fun new p h => ?_, fun e h => ?_⟩
 · have hY := hB.yes new p h
   clear hB
   generalize es ++ new.map EN.of = es' at *
   unfold xS xN at *
   refine VC.toldXF (And.intro @q0a @q0g) q37 [] Tryz.func39 rfl Tryz.ntmps39 fun hb hbL => ?_
   clear hb hbL
   refine q0f (And.intro k4 k5) ?_
   refine q0e (hT) ?_
   refine q0u ?_
   refine q0e (hKd) ?_
   refine q0f (q11) ?_
   refine q0i (And.intro @q0a @q0b) [1000000, 1000001] (hY) ?_
   refine q0f (And.intro @q0a @q0b) ?_
   refine q0j (@q0b) Tryz.results39 ?_
   exact ⟨.c _, .c _⟩
 · have hY := hB.no e h
   clear hB
   unfold xS xN at *
   refine VC.toldXF (And.intro @q0a @q0g) q37 [] Tryz.func39 rfl Tryz.ntmps39 fun hb hbL => ?_
   clear hb hbL
   refine q0f (And.intro k4 k5) ?_
   refine q0e (hT) ?_
   refine q0u ?_
   refine q0e (hKd) ?_
   refine q0f (q11) ?_
   refine q0i (And.intro @q0a @q0b) [1000000, 1000001] (hY) ?_
   refine q0f (And.intro @q0a @q0b) ?_
   refine q0j (@q0b) Tryz.results39 ?_
   exact ⟨.c _, .c _⟩
theorem rnode_map (es : List EN) (j : JT) (a : List UInt8) (B : BR (List NT × Int)) (w : List UInt8) (h4 : j.kd ≠ 4) (h5 : j.kd ≠ 5) (ht : ((gt j q0k).kd == 4) = true) (hw : (gt j q0k).txt = w) (hk : (q0h w : Int) = 12) (hB : RT 79 es [j.av, .c (.v (.int .i64 12)), .c (.v (.string (str q62))), .c (.v (.string (str a)))] B) : RT 39 es [j.av, .c (.v (.string (str a)))] B := by
 have k4 : (j.kd == 4) = false := beq_eq_false_iff_ne.2 h4
 have k5 : (j.kd == 5) = false := beq_eq_false_iff_ne.2 h5
 have hT := q5v j q0k
 rw [hw] at hT
 rw [ht] at hT
 rw [show str q0k = ⟨#[116, 121, 112, 101]⟩ from rfl] at hT
 have hKd := q7c w
 have hNm := q6s (q0h w : Int)
 rw [show str q62 = ⟨#[118, 97, 108, 117, 101, 115]⟩ from rfl] at hB
 have q11 : ((q0h w : Int) == 11) = false := beq_eq_false_iff_ne.2 (by omega)
 have q12 : ((q0h w : Int) == 12) = true := beq_iff_eq.2 hk
 clear hk
 clear ht hw
 generalize (q0h w : Int) = kk at *
 rw [JT.av_eq j, q0m j] at *
 generalize j.kd = j1 at *
 generalize j.num = j2 at *
 generalize j.txt = j3 at *
 generalize j.its = j4 at *
 generalize j.keys = j5 at *
 refine ⟨fun new p h => ?_, fun e h => ?_⟩
 · have hY := hB.yes new p h
   clear hB
   generalize es ++ new.map EN.of = es' at *
   unfold xS xN at *
   refine VC.toldXF (And.intro @q0a @q0g) q37 [] Tryz.func39 rfl Tryz.ntmps39 fun hb hbL => ?_
   clear hb hbL
   refine q0f (And.intro k4 k5) ?_
   refine q0e (hT) ?_
   refine q0u ?_
   refine q0e (hKd) ?_
   refine q0f (And.intro q11 q12) ?_
   refine q0i (And.intro @q0a @q0b) [1000000, 1000001] (hY) ?_
   refine q0f (And.intro @q0a @q0b) ?_
   refine q0j (@q0b) Tryz.results39 ?_
   exact ⟨.c _, .c _⟩
 · have hY := hB.no e h
   clear hB
   unfold xS xN at *
   refine VC.toldXF (And.intro @q0a @q0g) q37 [] Tryz.func39 rfl Tryz.ntmps39 fun hb hbL => ?_
   clear hb hbL
   refine q0f (And.intro k4 k5) ?_
   refine q0e (hT) ?_
   refine q0u ?_
   refine q0e (hKd) ?_
   refine q0f (And.intro q11 q12) ?_
   refine q0i (And.intro @q0a @q0b) [1000000, 1000001] (hY) ?_
   refine q0f (And.intro @q0a @q0b) ?_
   refine q0j (@q0b) Tryz.results39 ?_
   exact ⟨.c _, .c _⟩
theorem z6h (es : List EN) (j : JT) (a : List UInt8) (B : BR (List NT × Int)) (w : List UInt8) (h4 : j.kd ≠ 4) (h5 : j.kd ≠ 5) (ht : ((gt j q0k).kd == 4) = true) (hw : (gt j q0k).txt = w) (hk1 : (q0h w : Int) ≠ 11) (hk2 : (q0h w : Int) ≠ 12) (hk3 : q1w (q0h w : Int) = false) (hB : RT 75 es [.c (.v (.string (str w))), .c (.v (.string (str a)))] B) : RT 39 es [j.av, .c (.v (.string (str a)))] B := by
 have k4 : (j.kd == 4) = false := beq_eq_false_iff_ne.2 h4
 have k5 : (j.kd == 5) = false := beq_eq_false_iff_ne.2 h5
 have hT := q5v j q0k
 rw [hw] at hT
 rw [ht] at hT
 rw [show str q0k = ⟨#[116, 121, 112, 101]⟩ from rfl] at hT
 have hKd := q7c w
 have hNm := q6s (q0h w : Int)
 rw [hk3] at hNm
 have q11 : ((q0h w : Int) == 11) = false := beq_eq_false_iff_ne.2 hk1
 have q12 : ((q0h w : Int) == 12) = false := beq_eq_false_iff_ne.2 hk2
 clear hk1 hk2 hk3
 clear ht hw
 generalize (q0h w : Int) = kk at *
 rw [JT.av_eq j, q0m j] at *
 generalize j.kd = j1 at *
 generalize j.num = j2 at *
 generalize j.txt = j3 at *
 generalize j.its = j4 at *
 generalize j.keys = j5 at *
 refine ⟨fun new p h => ?_, fun e h => ?_⟩
 · have hY := hB.yes new p h
   clear hB
   generalize es ++ new.map EN.of = es' at *
   unfold xS xN at *
   refine VC.toldXF (And.intro @q0a @q0g) q37 [] Tryz.func39 rfl Tryz.ntmps39 fun hb hbL => ?_
   clear hb hbL
   refine q0f (And.intro k4 k5) ?_
   refine q0e (hT) ?_
   refine q0u ?_
   refine q0e (hKd) ?_
   refine q0f (And.intro q11 q12) ?_
   refine q0e (hNm) ?_
   refine q0u ?_
   refine q0i (And.intro @q0a @q0b) [1000000, 1000001] (hY) ?_
   refine q0f (And.intro @q0a @q0b) ?_
   refine q0j (@q0b) Tryz.results39 ?_
   exact ⟨.c _, .c _⟩
 · have hY := hB.no e h
   clear hB
   unfold xS xN at *
   refine VC.toldXF (And.intro @q0a @q0g) q37 [] Tryz.func39 rfl Tryz.ntmps39 fun hb hbL => ?_
   clear hb hbL
   refine q0f (And.intro k4 k5) ?_
   refine q0e (hT) ?_
   refine q0u ?_
   refine q0e (hKd) ?_
   refine q0f (And.intro q11 q12) ?_
   refine q0e (hNm) ?_
   refine q0u ?_
   refine q0i (And.intro @q0a @q0b) [1000000, 1000001] (hY) ?_
   refine q0f (And.intro @q0a @q0b) ?_
   refine q0j (@q0b) Tryz.results39 ?_
   exact ⟨.c _, .c _⟩
theorem rnode_hno (es : List EN) (j : JT) (a : List UInt8) (w : List UInt8) (h4 : j.kd ≠ 4) (h5 : j.kd ≠ 5) (ht : ((gt j q0k).kd == 4) = true) (hw : (gt j q0k).txt = w) (hk1 : (q0h w : Int) ≠ 11) (hk2 : (q0h w : Int) ≠ 12) (hk3 : q1w (q0h w : Int) = true) (m : EN) (e0 : Int) (he0 : e0 ≠ 0) (hH : ToldM Tryz.prog 81 [.ref 1000000 1 0 0, j.av, .c (.v (.int .i64 (q0h w : Int))), .c (.v (.string (str a)))] [xS es.length, xN es] [some (xS es.length), some (xN es)] (.tup [m.av, .c (.v (.int .i64 e0))])) : RT 39 es [j.av, .c (.v (.string (str a)))] (.error e0) := by
 have k4 : (j.kd == 4) = false := beq_eq_false_iff_ne.2 h4
 have k5 : (j.kd == 5) = false := beq_eq_false_iff_ne.2 h5
 have hT := q5v j q0k
 rw [hw] at hT
 rw [ht] at hT
 rw [show str q0k = ⟨#[116, 121, 112, 101]⟩ from rfl] at hT
 have hKd := q7c w
 have hNm := q6s (q0h w : Int)
 rw [hk3] at hNm
 have q11 : ((q0h w : Int) == 11) = false := beq_eq_false_iff_ne.2 hk1
 have q12 : ((q0h w : Int) == 12) = false := beq_eq_false_iff_ne.2 hk2
 have q0 : (e0 != 0) = true := by simpa using he0
 clear ht hw hk1 hk2 hk3
 generalize (q0h w : Int) = kk at *
 rw [EN.av_eq, q2v] at hH
 rw [JT.av_eq j, q0m j] at *
 generalize j.kd = j1 at *
 generalize j.num = j2 at *
 generalize j.txt = j3 at *
 generalize j.its = j4 at *
 generalize j.keys = j5 at *
 refine ⟨fun new p h => by simp at h, fun e h => ?_⟩
 injection h with h
 subst h
 unfold xS xN at *
 refine VC.toldXF (And.intro @q0a @q0g) q37 [] Tryz.func39 rfl Tryz.ntmps39 fun hb hbL => ?_
 clear hb hbL
 refine q0f (And.intro k4 k5) ?_
 refine q0e (hT) ?_
 refine q0u ?_
 refine q0e (hKd) ?_
 refine q0f (And.intro q11 q12) ?_
 refine q0e (hNm) ?_
 refine q0u ?_
 refine q0i (And.intro @q0a @q0b) [1000000, 1000001] (hH) ?_
 refine q0f (And.intro @q0a (And.intro @q0b q0)) ?_
 refine q0j (@q0b) Tryz.results39 ?_
 exact ⟨.c _, .c _⟩
theorem rnode_rec (es : List EN) (j : JT) (a : List UInt8) (B : BR (List NT × Int)) (w : List UInt8) (h4 : j.kd ≠ 4) (h5 : j.kd ≠ 5) (ht : ((gt j q0k).kd == 4) = true) (hw : (gt j q0k).txt = w) (hk : (q0h w : Int) = 9) (m : EN) (hH : ToldM Tryz.prog 81 [.ref 1000000 1 0 0, j.av, .c (.v (.int .i64 (q0h w : Int))), .c (.v (.string (str a)))] [xS es.length, xN es] [some (xS es.length), some (xN es)] (.tup [m.av, .c (.v (.int .i64 0))])) (hB : RT 82 es [j.av, m.av] B) : RT 39 es [j.av, .c (.v (.string (str a)))] B := by
 have k4 : (j.kd == 4) = false := beq_eq_false_iff_ne.2 h4
 have k5 : (j.kd == 5) = false := beq_eq_false_iff_ne.2 h5
 have hT := q5v j q0k
 rw [hw] at hT
 rw [ht] at hT
 rw [show str q0k = ⟨#[116, 121, 112, 101]⟩ from rfl] at hT
 have hKd := q7c w
 have hNm := q6s (q0h w : Int)
 rw [show q1w (q0h w : Int) = true by rw [hk]; rfl] at hNm
 have q11 : ((q0h w : Int) == 11) = false := beq_eq_false_iff_ne.2 (by omega)
 have q12 : ((q0h w : Int) == 12) = false := beq_eq_false_iff_ne.2 (by omega)
 have q9 : ((q0h w : Int) == 9) = true := beq_iff_eq.2 hk
 have q10 : ((q0h w : Int) == 10) = false := beq_eq_false_iff_ne.2 (by omega)
 clear hk
 rw [EN.av_eq, q2v] at hH hB
 clear ht hw
 generalize (q0h w : Int) = kk at *
 rw [JT.av_eq j, q0m j] at *
 generalize j.kd = j1 at *
 generalize j.num = j2 at *
 generalize j.txt = j3 at *
 generalize j.its = j4 at *
 generalize j.keys = j5 at *
 refine ⟨fun new p h => ?_, fun e h => ?_⟩
 · have hY := hB.yes new p h
   clear hB
   generalize es ++ new.map EN.of = es' at *
   unfold xS xN at *
   refine VC.toldXF (And.intro @q0a @q0g) q37 [] Tryz.func39 rfl Tryz.ntmps39 fun hb hbL => ?_
   clear hb hbL
   refine q0f (And.intro k4 k5) ?_
   refine q0e (hT) ?_
   refine q0u ?_
   refine q0e (hKd) ?_
   refine q0f (And.intro q11 q12) ?_
   refine q0e (hNm) ?_
   refine q0u ?_
   refine q0i (And.intro @q0a @q0b) [1000000, 1000001] (hH) ?_
   refine q0f (And.intro @q0a (And.intro @q0b q9)) ?_
   refine q0i (And.intro @q0a @q0b) [1000000, 1000001] (hY) ?_
   refine q0f (And.intro @q0a @q0b) ?_
   refine q0j (@q0b) Tryz.results39 ?_
   exact ⟨.c _, .c _⟩
 · have hY := hB.no e h
   clear hB
   unfold xS xN at *
   refine VC.toldXF (And.intro @q0a @q0g) q37 [] Tryz.func39 rfl Tryz.ntmps39 fun hb hbL => ?_
   clear hb hbL
   refine q0f (And.intro k4 k5) ?_
   refine q0e (hT) ?_
   refine q0u ?_
   refine q0e (hKd) ?_
   refine q0f (And.intro q11 q12) ?_
   refine q0e (hNm) ?_
   refine q0u ?_
   refine q0i (And.intro @q0a @q0b) [1000000, 1000001] (hH) ?_
   refine q0f (And.intro @q0a (And.intro @q0b q9)) ?_
   refine q0i (And.intro @q0a @q0b) [1000000, 1000001] (hY) ?_
   refine q0f (And.intro @q0a @q0b) ?_
   refine q0j (@q0b) Tryz.results39 ?_
   exact ⟨.c _, .c _⟩
theorem z6d (es : List EN) (j : JT) (a : List UInt8) (B : BR (List NT × Int)) (w : List UInt8) (h4 : j.kd ≠ 4) (h5 : j.kd ≠ 5) (ht : ((gt j q0k).kd == 4) = true) (hw : (gt j q0k).txt = w) (hk : (q0h w : Int) = 10) (m : EN) (hH : ToldM Tryz.prog 81 [.ref 1000000 1 0 0, j.av, .c (.v (.int .i64 (q0h w : Int))), .c (.v (.string (str a)))] [xS es.length, xN es] [some (xS es.length), some (xN es)] (.tup [m.av, .c (.v (.int .i64 0))])) (hB : RT 83 es [j.av, m.av] B) : RT 39 es [j.av, .c (.v (.string (str a)))] B := by
 have k4 : (j.kd == 4) = false := beq_eq_false_iff_ne.2 h4
 have k5 : (j.kd == 5) = false := beq_eq_false_iff_ne.2 h5
 have hT := q5v j q0k
 rw [hw] at hT
 rw [ht] at hT
 rw [show str q0k = ⟨#[116, 121, 112, 101]⟩ from rfl] at hT
 have hKd := q7c w
 have hNm := q6s (q0h w : Int)
 rw [show q1w (q0h w : Int) = true by rw [hk]; rfl] at hNm
 have q11 : ((q0h w : Int) == 11) = false := beq_eq_false_iff_ne.2 (by omega)
 have q12 : ((q0h w : Int) == 12) = false := beq_eq_false_iff_ne.2 (by omega)
 have q9 : ((q0h w : Int) == 9) = false := beq_eq_false_iff_ne.2 (by omega)
 have q10 : ((q0h w : Int) == 10) = true := beq_iff_eq.2 hk
 clear hk
 rw [EN.av_eq, q2v] at hH hB
 clear ht hw
 generalize (q0h w : Int) = kk at *
 rw [JT.av_eq j, q0m j] at *
 generalize j.kd = j1 at *
 generalize j.num = j2 at *
 generalize j.txt = j3 at *
 generalize j.its = j4 at *
 generalize j.keys = j5 at *
 refine ⟨fun new p h => ?_, fun e h => ?_⟩
 · have hY := hB.yes new p h
   clear hB
   generalize es ++ new.map EN.of = es' at *
   unfold xS xN at *
   refine VC.toldXF (And.intro @q0a @q0g) q37 [] Tryz.func39 rfl Tryz.ntmps39 fun hb hbL => ?_
   clear hb hbL
   refine q0f (And.intro k4 k5) ?_
   refine q0e (hT) ?_
   refine q0u ?_
   refine q0e (hKd) ?_
   refine q0f (And.intro q11 q12) ?_
   refine q0e (hNm) ?_
   refine q0u ?_
   refine q0i (And.intro @q0a @q0b) [1000000, 1000001] (hH) ?_
   refine q0f (And.intro @q0a (And.intro @q0b (And.intro q9 q10))) ?_
   refine q0i (And.intro @q0a @q0b) [1000000, 1000001] (hY) ?_
   refine q0f (And.intro @q0a @q0b) ?_
   refine q0j (@q0b) Tryz.results39 ?_
   exact ⟨.c _, .c _⟩
 · have hY := hB.no e h
   clear hB
   unfold xS xN at *
   refine VC.toldXF (And.intro @q0a @q0g) q37 [] Tryz.func39 rfl Tryz.ntmps39 fun hb hbL => ?_
   clear hb hbL
   refine q0f (And.intro k4 k5) ?_
   refine q0e (hT) ?_
   refine q0u ?_
   refine q0e (hKd) ?_
   refine q0f (And.intro q11 q12) ?_
   refine q0e (hNm) ?_
   refine q0u ?_
   refine q0i (And.intro @q0a @q0b) [1000000, 1000001] (hH) ?_
   refine q0f (And.intro @q0a (And.intro @q0b (And.intro q9 q10))) ?_
   refine q0i (And.intro @q0a @q0b) [1000000, 1000001] (hY) ?_
   refine q0f (And.intro @q0a @q0b) ?_
   refine q0j (@q0b) Tryz.results39 ?_
   exact ⟨.c _, .c _⟩
theorem rnode_fix (es : List EN) (j : JT) (a : List UInt8) (B : BR (List NT × Int)) (w : List UInt8) (h4 : j.kd ≠ 4) (h5 : j.kd ≠ 5) (ht : ((gt j q0k).kd == 4) = true) (hw : (gt j q0k).txt = w) (hk : (q0h w : Int) = 14) (m : EN) (hH : ToldM Tryz.prog 81 [.ref 1000000 1 0 0, j.av, .c (.v (.int .i64 (q0h w : Int))), .c (.v (.string (str a)))] [xS es.length, xN es] [some (xS es.length), some (xN es)] (.tup [m.av, .c (.v (.int .i64 0))])) (hB : RT 84 es [j.av, m.av] B) : RT 39 es [j.av, .c (.v (.string (str a)))] B := by
 have k4 : (j.kd == 4) = false := beq_eq_false_iff_ne.2 h4
 have k5 : (j.kd == 5) = false := beq_eq_false_iff_ne.2 h5
 have hT := q5v j q0k
 rw [hw] at hT
 rw [ht] at hT
 rw [show str q0k = ⟨#[116, 121, 112, 101]⟩ from rfl] at hT
 have hKd := q7c w
 have hNm := q6s (q0h w : Int)
 rw [show q1w (q0h w : Int) = true by rw [hk]; rfl] at hNm
 have q11 : ((q0h w : Int) == 11) = false := beq_eq_false_iff_ne.2 (by omega)
 have q12 : ((q0h w : Int) == 12) = false := beq_eq_false_iff_ne.2 (by omega)
 have q9 : ((q0h w : Int) == 9) = false := beq_eq_false_iff_ne.2 (by omega)
 have q10 : ((q0h w : Int) == 10) = false := beq_eq_false_iff_ne.2 (by omega)
 clear hk
 rw [EN.av_eq, q2v] at hH hB
 clear ht hw
 generalize (q0h w : Int) = kk at *
 rw [JT.av_eq j, q0m j] at *
 generalize j.kd = j1 at *
 generalize j.num = j2 at *
 generalize j.txt = j3 at *
 generalize j.its = j4 at *
 generalize j.keys = j5 at *
 refine ⟨fun new p h => ?_, fun e h => ?_⟩
 · have hY := hB.yes new p h
   clear hB
   generalize es ++ new.map EN.of = es' at *
   unfold xS xN at *
   refine VC.toldXF (And.intro @q0a @q0g) q37 [] Tryz.func39 rfl Tryz.ntmps39 fun hb hbL => ?_
   clear hb hbL
   refine q0f (And.intro k4 k5) ?_
   refine q0e (hT) ?_
   refine q0u ?_
   refine q0e (hKd) ?_
   refine q0f (And.intro q11 q12) ?_
   refine q0e (hNm) ?_
   refine q0u ?_
   refine q0i (And.intro @q0a @q0b) [1000000, 1000001] (hH) ?_
   refine q0f (And.intro @q0a (And.intro @q0b (And.intro q9 q10))) ?_
   refine q0i (And.intro @q0a @q0b) [1000000, 1000001] (hY) ?_
   refine q0f (And.intro @q0a @q0b) ?_
   refine q0j (@q0b) Tryz.results39 ?_
   exact ⟨.c _, .c _⟩
 · have hY := hB.no e h
   clear hB
   unfold xS xN at *
   refine VC.toldXF (And.intro @q0a @q0g) q37 [] Tryz.func39 rfl Tryz.ntmps39 fun hb hbL => ?_
   clear hb hbL
   refine q0f (And.intro k4 k5) ?_
   refine q0e (hT) ?_
   refine q0u ?_
   refine q0e (hKd) ?_
   refine q0f (And.intro q11 q12) ?_
   refine q0e (hNm) ?_
   refine q0u ?_
   refine q0i (And.intro @q0a @q0b) [1000000, 1000001] (hH) ?_
   refine q0f (And.intro @q0a (And.intro @q0b (And.intro q9 q10))) ?_
   refine q0i (And.intro @q0a @q0b) [1000000, 1000001] (hY) ?_
   refine q0f (And.intro @q0a @q0b) ?_
   refine q0j (@q0b) Tryz.results39 ?_
   exact ⟨.c _, .c _⟩
theorem full_100 (j : JT) (a : List UInt8) : ((q1b j a).getD []).length ≤ 100 := by
 cases h : q1b j a with
 | none => simp
 | some f =>
   unfold q1b at h
   exact j6y h
theorem j5a : ∀ (d : Nat) (j : JT) (a : List UInt8), q1y j < d → j.sm 1000000 → a.length ≤ 1000000 → ∀ es : List EN, es.length ≤ 200 → RT 39 es [j.av, .c (.v (.string (str a)))] (q3e d (hsE es) j a)
 | 0, j, a, h, _, _ => absurd h (Nat.not_lt_zero _)
 | d + 1, j, a, hd, hs, ha => fun es hl => by
   obtain ⟨p1, p2, p3⟩ := q17 hs
   unfold q3e
   try simp only []
   by_cases h4 : j.kd = 4
   · rw [if_pos h4]
     exact z6g es j a _ h4 (z2k es hl j.txt a (by omega) (by omega))
   rw [if_neg h4]
   by_cases h5 : j.kd = 5
   · rw [if_pos h5]
     exact z6e es j a _ h5 (runion_rt es hl j.its a _ (j2q d) (z0s d) fun x hx es' hl' => j5a d x a (by have := j3e (.inl h5) hx; omega) (p3 x hx) ha es' hl')
   rw [if_neg h5]
   cases ht : ((gt j q0k).kd == 4) with
   | false =>
     have hB : (if j.kd = 6 then q5p (q3e d) (hsE es) j a else .error 30) = .error 30 := by
      split
      · unfold q5p
        rw [q74, show ((gt j q0k).kd != 4) = true by simpa [bne] using ht]
        rfl
      · rfl
     rw [hB]
     exact z6f es j a h4 h5 ht
   | true =>
   have h6 := gt_kd ht
   rw [if_pos h6]
   have hkid : ∀ key x, jget j key = some x → ∀ es' : List EN, es'.length ≤ 200 → RT 39 es' [x.av, .c (.v (.string (str a)))] (q3e d (hsE es') x a) := fun key x hx es' hl' => j5a d x a (by have := j2h hx; omega) (p3 x (q7o hx).2) ha es' hl'
   unfold q5p
   rw [q74, show ((gt j q0k).kd != 4) = false by simpa [bne] using ht, fl_f, q2p]
   simp only []
   obtain ⟨w, hw⟩ : ∃ w, (gt j q0k).txt = w := ⟨_, rfl⟩
   rw [hw]
   by_cases h11 : q0h w = 11
   · rw [if_pos h11]
     exact rnode_arr es j a _ w h4 h5 ht hw (by omega) (z18 es hl j 11 q61 a _ (j2q d) fun x hx es' hl' => hkid _ x hx es' hl')
   rw [if_neg h11]
   by_cases h12 : q0h w = 12
   · rw [if_pos h12]
     exact rnode_map es j a _ w h4 h5 ht hw (by omega) (z18 es hl j 12 q62 a _ (j2q d) fun x hx es' hl' => hkid _ x hx es' hl')
   rw [if_neg h12]
   cases hnk : q1w (q0h w : Int) with
   | false =>
     rw [if_neg (by simp)]
     exact z6h es j a _ w h4 h5 ht hw (by omega) (by omega) hnk (z2k es hl w a (by have := (q17 (q2o hs q0k)).1; rw [hw] at this; omega) (by omega))
   | true =>
   rw [if_pos rfl, z0k]
   obtain ⟨m, hm, hH⟩ := z59 es hl j (q0h w : Int) a hs ha
   by_cases hE : q27 (hsE es) j a = 0
   rotate_left
   · rw [q16 hE]
     exact rnode_hno es j a w h4 h5 ht hw (by omega) (by omega) hnk m _ hE hH
   have hmm := hm hE
   rw [hE] at hH ⊢
   subst hmm
   rw [q2p]
   simp only []
   by_cases h9 : q0h w = 9
   · rw [if_pos h9]
     have hkw : (q0h w : Int) = 9 := by omega
     refine rnode_rec es j a _ w h4 h5 ht hw hkw _ hH ?_
     have hfs := q17 (q2o hs q0q)
     have hnm : (q3u j (q0h w : Int) a).name = (q1b j a).getD [] := rfl
     have hf100 := full_100 j a
     have hsp := j70 ((q1b j a).getD [])
     exact z6j es hl j hs (q3u j (q0h w : Int) a) (by rw [hnm]; omega) _ (j2q d) (z0s d) fun h5' x hx t hxt es' hl' => by
      have hxs := hfs.2.2 x hx
      have hd1 : q1y x + 1 ≤ q1y j := by
       cases hf : jget j q0q with
       | none =>
         have : gt j q0q = zJ := by unfold gt; rw [hf]; rfl
         rw [this] at hx
         simp [zJ, JT.its] at hx
       | some w =>
         rw [gt_of hf] at hx
         rw [gt_of hf] at h5'
         have h1 := j3e (.inl h5') hx
         have h2 := j2h hf
         omega
      exact j5a d t _ (by have := j2h hxt; omega) ((q17 hxs).2.2 t (q7o hxt).2) (by rw [hnm]; omega) es' hl'
   rw [if_neg h9]
   by_cases h10 : q0h w = 10
   · rw [if_pos h10]
     have hkw : (q0h w : Int) = 10 := by omega
     refine z6d es j a _ w h4 h5 ht hw hkw _ hH ?_
     exact (renum_rt es hl j hs (q3u j (q0h w : Int) a) rfl).co (.cons (.same _) (.cons (j4r j _ a) .nil))
   rw [if_neg h10]
   have h14 : (q0h w : Int) = 14 := by
    unfold q1w at hnk
    simp only [Bool.or_eq_true, beq_iff_eq] at hnk
    omega
   refine rnode_fix es j a _ w h4 h5 ht hw h14 _ hH ?_
   exact (rfixed_rt es hl j (q3u j (q0h w : Int) a)).co (.cons (.same _) (.cons (j4r j _ a) .nil))

theorem take_step {ns : List NT} {l : List Int} {i : Nat} (h : i < ns.length) : (q14 ns l).take (i + 1) = (q14 ns l).take i ++ [q2a (wAt l) (q15 ns i) 1] := by
 rw [List.take_add_one, j8g h]
 rfl
theorem z45 {ns : List NT} {i : Nat} {n : NT} (h : ns[i]? = some n) : q15 ns i = if n.kind = 9 then n.fields else [] := by rw [q15, h]
noncomputable def difT (a b : List Int) (i : Nat) : Bool := @decide (a.take i ≠ b.take i) (Classical.propDecidable _)
theorem difT_zero (a b : List Int) : difT a b 0 = false := by simp [difT]
theorem difT_next {a b : List Int} {i : Nat} {x y : Int} (hx : a[i]? = some x) (hy : b[i]? = some y) : difT a b (i + 1) = (difT a b i || (x != y)) := by
 have hla := (List.getElem?_eq_some_iff.1 hx).1
 have hlb := (List.getElem?_eq_some_iff.1 hy).1
 rw [Bool.eq_iff_iff]
 simp only [difT, decide_eq_true_eq, Bool.or_eq_true, bne_iff_ne, ne_eq]
 rw [List.take_add_one, List.take_add_one, hx, hy, Option.toList_some, Option.toList_some]
 constructor
 · intro h
   by_cases h1 : a.take i = b.take i
   · by_cases h2 : x = y
     · exact absurd (by rw [h1, h2]) h
     · exact .inr h2
   · exact .inl h1
 · rintro h e
   have := List.append_inj e (by simp; omega)
   rcases h with h | h
   · exact h this.1
   · exact h (List.cons.inj this.2).1
theorem difT_end {a b : List Int} {i : Nat} (ha : a.length = i) (hb : b.length = i) : difT a b i = false ↔ a = b := by
 simp only [difT, decide_eq_false_iff_not, ne_eq, Classical.not_not]
 rw [List.take_of_length_le (by omega), List.take_of_length_le (by omega)]
theorem z6v (s : ST) (hl : s.nodes.length ≤ 1000000) (hs : ∀ n ∈ s.nodes, n.sm 1000000) (hr : ∀ p, ∀ x ∈ q15 s.nodes p, 0 ≤ x.type ∧ x.type < (s.nodes.length : Int)) (l : List Int) (hG : ∀ l', WOk s.nodes l' → q14 s.nodes l' = l' → l' = l) :
  Told Tryz.prog 40 [s.av] (.c (.sl 1 (l.map iPV))) := by
 rw [ST.av_eq, q2q]
 refine VC.toldP ent_40 Tryz.func40 rfl Tryz.ntmps40 fun hb => ?_
 clear hb
 refine q0c ?_
 refine VC.nil 3 3 1 (by rfl) (by trivial) (by rfl) ?_
 refine VC.loop (ι := {i : Nat // i ≤ s.nodes.length}) (fun q => [(1, .ref 0 1 0 0), (3, .row 32 q.1), (4, .c (.v (.int .i64 (q.1 : Int))))]) (fun q => [(0, ⟨false, 30, 2, [s.cells.map .c]⟩), (32, ⟨true, 3, 1, rA iPV (List.replicate q.1 1)⟩)]) 800 (fun q => s.nodes.length - q.1)
  ⟨0, Nat.zero_le _⟩ ?_ ?_
 · simp only [q0a, q0g, q32, q2q, Weak, eq_self, q09, q03, sc_c, q05, q06, q07, q02, q04, ScL, q08, List.forall_mem_map, go_sem, Int.reduceBEq, Int.reduceLE, Int.reduceLT, Int.reduceNeg, Nat.reduceAdd, Nat.reduceEqDiff, Nat.reduceLT, Nat.reduceLeDiff, Nat.reduceMul, Nat.reduceSub, reduceCtorEq, ↓reduceIte]
   try simp [q32]
 rintro ⟨i, hi⟩
 simp only []
 refine q0d (@q2q) ?_
 refine VC.cond (by rfl) (by trivial) (fun hc => ?_) (fun hc => ?_)
 · have hlt : i < s.nodes.length := by simp at hc; omega
   have hw : IntKind.i64.wrap ((i : Int) + 1) = (i : Int) + 1 := q0w (by omega) (by omega)
   have hln : (rA iPV (List.replicate i 1)).length = i := by rw [q0a]; simp
   have hap : rA iPV (List.replicate i 1) ++ [[.c (.v (.int .i64 1))]] = rA iPV (List.replicate (i + 1) 1) := by
    rw [List.replicate_succ']
    exact q58 iPV _ 1
   have hl2 : (rA iPV (List.replicate (i + 1) 1)).length = i + 1 := by rw [q0a]; simp
   refine q0d (And.intro hln (And.intro hap hw)) ?_
   refine .next ⟨i + 1, by omega⟩ ?_ (by simp only []; omega)
   refine q1l (And.intro hl2 (And.intro @q0g @q2q)) ?_
   exact ⟨cI (by omega), by rw [q0a]; simp⟩
 have hie : i = s.nodes.length := by simp at hc; omega
 subst hie
 have hln : (rA iPV (List.replicate s.nodes.length 1)).length = s.nodes.length := by rw [q0a]; simp
 refine q0c ?_
 refine VC.frz [32] [(1, .ref 0 1 0 0), (3, .c (.sl 1 ((List.replicate s.nodes.length 1).map iPV))), (5, .c (.v (.bool true)))] [(0, ⟨false, 30, 2, [s.cells.map .c]⟩)] 1600 ?_ ?_
 · refine q6y (And.intro @q0g (And.intro @q0a @q2q)) ?_
   exact ⟨⟨.same _, .row (B := ⟨true, 3, 1, rA iPV (List.replicate s.nodes.length 1)⟩) (es := (List.replicate s.nodes.length 1).map iPV) (by simp) rfl rfl hln (q4p _ _), .same _⟩, .same _⟩
 refine VC.loop (ι := {x : List Int × Bool // WOk s.nodes x.1 ∧ (x.2 = false → q14 s.nodes x.1 = x.1)}) (fun q => [(1, .ref 0 1 0 0), (3, .c (.sl 1 (q.1.1.map iPV))), (5, .c (.v (.bool q.1.2)))]) (fun q => [(0, ⟨false, 30, 2, [s.cells.map .c]⟩)]) 3200 (fun q => q6z q.1.1 * 2 + q.1.2.toNat)
  ⟨(List.replicate s.nodes.length 1, true), wok_one s.nodes, by simp⟩ ?_ ?_
 · exact q6e (@q2q)
 rintro ⟨⟨w, more⟩, hwk, hmore⟩
 simp only [] at hwk hmore ⊢
 refine q0c ?_
 refine VC.cond (by rfl) (by trivial) (fun hm => ?_) (fun hm => ?_)
 rotate_left
 · obtain rfl := hG w hwk (hmore hm)
   refine q0c ?_
   refine retX Tryz.results40 ?_
   exact .c _
 subst hm
 obtain ⟨hwl, hwr, hwm⟩ := hwk
 have hwl2 : (w.map iPV).length = s.nodes.length := by simp [hwl]
 refine q0c ?_
 refine VC.nil 6 3 1 (by rfl) (by trivial) (by rfl) ?_
 refine VC.loop (ι := {i : Nat // i ≤ s.nodes.length}) (fun q => [(1, .ref 0 1 0 0), (3, .c (.sl 1 (w.map iPV))), (5, .c (.v (.bool (difT (q14 s.nodes w) w q.1)))), (6, .row 3232 q.1), (7, .c (.v (.int .i64 (q.1 : Int))))]) (fun q => [(0, ⟨false, 30, 2, [s.cells.map .c]⟩), (3232, ⟨true, 3, 1, rA iPV ((q14 s.nodes w).take q.1)⟩)]) 4800 (fun q => s.nodes.length - q.1)
  ⟨0, Nat.zero_le _⟩ ?_ ?_
 · exact q6e (And.intro @q0a (And.intro @q0g (And.intro @q32 (And.intro @q2q @difT_zero))))
 rintro ⟨i, hi⟩
 simp only []
 refine q0d (@q2q) ?_
 refine VC.cond (by rfl) (by trivial) (fun hc => ?_) (fun hc => ?_)
 · have hlt : i < s.nodes.length := by simp at hc; omega
   obtain ⟨n, hn⟩ : ∃ n, s.nodes[i]? = some n := ⟨s.nodes[i], List.getElem?_eq_getElem hlt⟩
   have hnp : (s.nodes.map NT.cells)[i]? = some n.cells := by rw [List.getElem?_map, hn]; rfl
   have hw : IntKind.i64.wrap ((i : Int) + 1) = (i : Int) + 1 := q0w (by omega) (by omega)
   have hfl := (hs n (List.mem_of_getElem? hn)).2.2.2.2.2.1
   obtain ⟨v, hv⟩ : ∃ v, w[i]? = some v := ⟨w[i]'(by omega), List.getElem?_eq_getElem (by omega)⟩
   have hvp : (w.map iPV)[i]? = some (iPV v) := by rw [List.getElem?_map, hv]; rfl
   have hwa := fun q => j5r hwr q
   have hsl : (q14 s.nodes w).length = s.nodes.length := by simp [q14]
   have hln2 : (rA iPV ((q14 s.nodes w).take i)).length = i := by rw [q0a]; simp; omega
   have hl2 : (rA iPV ((q14 s.nodes w).take (i + 1))).length = i + 1 := by rw [q0a]; simp; omega
   have hst := take_step (l := w) hlt
   have hat := j8g (l := w) hlt
   have hdn := difT_next hat hv
   obtain ⟨T, hT⟩ : ∃ T, T = q2a (wAt w) (q15 s.nodes i) 1 := ⟨_, rfl⟩
   rw [← hT] at hst hat hdn
   have hap : rA iPV ((q14 s.nodes w).take i) ++ [[.c (.v (.int .i64 T))]] = rA iPV ((q14 s.nodes w).take (i + 1)) := by
    rw [hst]
    exact q58 iPV _ T
   have hfa := z45 hn
   replace hdn := Lib.hid hdn
   have hlw : ∀ (F : List FT) (a : Int), a ≤ 1001 → q2a (wAt w) F a ≤ 1001 := fun F a h => j3b F a h
   have hgw : ∀ (F : List FT) (a : Int), a ≤ 1001 → a ≤ q2a (wAt w) F a := fun F a h => q8o (fun q => (hwa q).1) F a h
   refine q0c ?_
   refine VC.loop (ι := {x : Nat × Int // x.1 ≤ n.fields.length ∧ 1 ≤ x.2 ∧ x.2 ≤ 2001 ∧ q2a (wAt w) ((if n.kind = 9 then n.fields else []).drop x.1) (min x.2 1001) = T}) (fun q => [(1, .ref 0 1 0 0), (3, .c (.sl 1 (w.map iPV))), (5, .c (.v (.bool (difT (q14 s.nodes w) w i)))), (6, .row 3232 i), (7, .c (.v (.int .i64 (i : Int)))), (8, .c (.v (.int .i64 q.1.2))), (9, .c (.v (.int .i64 (q.1.1 : Int))))])
    (fun q => [(0, ⟨false, 30, 2, [s.cells.map .c]⟩), (3232, ⟨true, 3, 1, rA iPV ((q14 s.nodes w).take i)⟩)]) 6400 (fun q => n.fields.length - q.1.1) ⟨(0, 1), Nat.zero_le _, by simp only []; omega, by simp only []; omega, by rw [hT, hfa]; rfl⟩ ?_ ?_
   · refine q1l (And.intro hln2 (And.intro @q0g @q2q)) ?_
     exact Nat.le_refl _
   rintro ⟨⟨k, m⟩, hk, hm1, hm2, hfo⟩
   simp only [] at hk hm1 hm2 hfo ⊢
   refine q0d (And.intro @q2q (And.intro hnp @q3w)) ?_
   refine VC.cond (by rfl) (by trivial) (fun hc2 => ?_) (fun hc2 => ?_)
   · obtain ⟨hkl, h9, hmk⟩ : k < n.fields.length ∧ n.kind = 9 ∧ m ≤ 1000 := by
      simp at hc2
      omega
     obtain ⟨f, hf⟩ : ∃ f, n.fields[k]? = some f := ⟨n.fields[k], List.getElem?_eq_getElem hkl⟩
     have hfp : (n.fields.map FT.cells)[k]? = some f.cells := by rw [List.getElem?_map, hf]; rfl
     have hwk : IntKind.i64.wrap ((k : Int) + 1) = (k : Int) + 1 := q0w (by omega) (by omega)
     obtain ⟨t0, t1⟩ := hr i f (by rw [hfa, if_pos h9]; exact List.mem_of_getElem? hf)
     obtain ⟨q, hq⟩ : ∃ q : Nat, f.type = (q : Int) := ⟨f.type.toNat, by omega⟩
     obtain ⟨u, hu⟩ : ∃ u, w[q]? = some u := ⟨w[q]'(by omega), List.getElem?_eq_getElem (by omega)⟩
     have hup : (w.map iPV)[q]? = some (iPV u) := by rw [List.getElem?_map, hu]; rfl
     have hur := hwr u (List.mem_of_getElem? hu)
     have hwu : IntKind.i64.wrap (m + u) = m + u := q0w (by omega) (by omega)
     rw [if_pos h9, j9r hf, q2a, hq, Int.toNat_natCast, j5q hu] at hfo
     refine q0d (And.intro @q2q (And.intro hnp (And.intro @q3w (And.intro hfp (And.intro @j2d (And.intro hq (And.intro hup (And.intro @q66 (And.intro hwl2 (And.intro hwl (And.intro hwu hwk))))))))))) ?_
     refine .next ⟨(k + 1, m + u), by simp only []; omega, by simp only []; omega, by simp only []; omega, by
      simp only []
      rw [if_pos h9, ← hfo]
      congr 1
      omega⟩ ?_ (by simp only []; omega)
     refine q1l (And.intro hln2 (And.intro @q0g @q2q)) ?_
     exact ⟨cI (by omega), Nat.le_refl _⟩
   · have hend : min m 1001 = T := by
      rw [← hfo]
      by_cases h9 : n.kind = 9
      · rw [if_pos h9]
        by_cases hkl : k < n.fields.length
        · have hmb : 1000 < m := by
           simp [h9] at hc2
           omega
          have a := hlw (n.fields.drop k) (min m 1001) (by omega)
          have b := hgw (n.fields.drop k) (min m 1001) (by omega)
          omega
        · rw [List.drop_of_length_le (by omega), q2a]
      · rw [if_neg h9, List.drop_nil, q2a]
     refine q0c ?_
     refine VC.cond (by rfl) (by trivial) (fun hc3 => ?_) (fun hc3 => ?_)
     · have hmT : T = 1001 := by
        rw [← hend]
        simp at hc3
        omega
       subst hmT
       refine q0d (And.intro @q2q (And.intro hvp (And.intro @q66 (And.intro hwl2 (And.intro hwl (And.intro hln2 (And.intro hap hw))))))) ?_
       refine .next ⟨i + 1, by omega⟩ ?_ (by simp only []; omega)
       refine q1l (And.intro hl2 (And.intro @q0g (And.intro @q2q hdn.out))) ?_
       exact ⟨cI (by omega), Nat.le_refl _⟩
     · have hmT : m = T := by
        rw [← hend]
        simp at hc3
        omega
       subst hmT
       refine q0d (And.intro @q2q (And.intro hvp (And.intro @q66 (And.intro hwl2 (And.intro hwl (And.intro hln2 (And.intro hap hw))))))) ?_
       refine .next ⟨i + 1, by omega⟩ ?_ (by simp only []; omega)
       refine q1l (And.intro hl2 (And.intro @q0g (And.intro @q2q hdn.out))) ?_
       exact ⟨cI (by omega), Nat.le_refl _⟩
 have hie : i = s.nodes.length := by simp at hc; omega
 have hsl : (q14 s.nodes w).length = s.nodes.length := by simp [q14]
 subst hie
 rw [show (q14 s.nodes w).take s.nodes.length = q14 s.nodes w from List.take_of_length_le (by omega)]
 have hln3 : (rA iPV (q14 s.nodes w)).length = s.nodes.length := by rw [q0a, hsl]
 obtain ⟨d, hd⟩ : ∃ d, d = difT (q14 s.nodes w) w s.nodes.length := ⟨_, rfl⟩
 rw [← hd]
 have hde := difT_end (a := q14 s.nodes w) (b := w) hsl hwl
 rw [← hd] at hde
 have hlack := fun h : q14 s.nodes w ≠ w => z7x ⟨hwl, hwr, hwm⟩ h
 have hok := z3r ⟨hwl, hwr, hwm⟩
 refine VC.frz [3232] [(1, .ref 0 1 0 0), (6, .c (.sl 1 ((q14 s.nodes w).map iPV))), (5, .c (.v (.bool d)))] [(0, ⟨false, 30, 2, [s.cells.map .c]⟩)] 12000 ?_ ?_
 · refine q6y (And.intro @q0g (And.intro @q0a @q2q)) ?_
   exact ⟨⟨.same _, .row (B := ⟨true, 3, 1, rA iPV (q14 s.nodes w)⟩) (es := (q14 s.nodes w).map iPV) (by simp) rfl rfl hln3 (q4p _ _), .same _⟩, .same _⟩
 refine q0c ?_
 refine .next ⟨(q14 s.nodes w, d), hok, fun h => ?_⟩ ?_ ?_
 · have e := hde.1 h
   simp only []
   rw [e]
   exact e
 · exact q6e (@q2q)
 · simp only []
   cases d with
   | false =>
     have e := hde.1 rfl
     rw [e]
     simp
   | true =>
     have := hlack fun e => by
      have := hde.2 e
      simp at this
     simp
     omega
section

def q6l (c : Int) : Bool := decide (0 ≤ c ∧ c ≤ 1114111 ∧ (c < 55296 ∨ 57344 ≤ c))
def uenc (c : Nat) : List UInt8 :=
 if c < 128 then [c.toUInt8] else if c < 2048 then [(192 + c / 64).toUInt8, (128 + c % 64).toUInt8]
 else if c < 65536 then [(224 + c / 4096).toUInt8, (128 + c / 64 % 64).toUInt8, (128 + c % 64).toUInt8]
 else [(240 + c / 262144).toUInt8, (128 + c / 4096 % 64).toUInt8, (128 + c / 64 % 64).toUInt8, (128 + c % 64).toUInt8]
theorem z27 (c : Nat) : (uenc c).length ≤ 4 := by
 unfold uenc
 split
 · simp
 · split
   · simp
   · split <;> simp
variable {l : List UInt8} {p : Nat}
def bN (l : List UInt8) (i : Nat) : Nat := (q1t l i).toNat
theorem bN_lt (l : List UInt8) (i : Nat) : bN l i < 256 := (q1t l i).toNat_lt
def q40 (l : List UInt8) (p : Nat) (n : Nat) : Prop :=
 (n = 1 ∧ p < l.length ∧ bN l p < 128) ∨
 (n = 2 ∧ p + 1 < l.length ∧ 194 ≤ bN l p ∧ bN l p < 224 ∧ 128 ≤ bN l (p + 1) ∧ bN l (p + 1) < 192) ∨
 (n = 3 ∧ p + 2 < l.length ∧ 224 ≤ bN l p ∧ bN l p < 240 ∧ 128 ≤ bN l (p + 1) ∧ bN l (p + 1) < 192 ∧ 128 ≤ bN l (p + 2) ∧ bN l (p + 2) < 192 ∧ (bN l p = 224 → 160 ≤ bN l (p + 1)) ∧ (bN l p = 237 → bN l (p + 1) ≤ 159)) ∨
 (n = 4 ∧ p + 3 < l.length ∧ 240 ≤ bN l p ∧ bN l p < 245 ∧ 128 ≤ bN l (p + 1) ∧ bN l (p + 1) < 192 ∧ 128 ≤ bN l (p + 2) ∧ bN l (p + 2) < 192 ∧ 128 ≤ bN l (p + 3) ∧ bN l (p + 3) < 192 ∧ (bN l p = 240 → 144 ≤ bN l (p + 1)) ∧ (bN l p = 244 → bN l (p + 1) ≤ 143))
def cvN (l : List UInt8) (p n : Nat) : Int :=
 if n = 1 then (bN l p : Int) else if n = 2 then ((bN l p : Int) - 192) * 64 + ((bN l (p + 1) : Int) - 128)
 else if n = 3 then ((bN l p : Int) - 224) * 4096 + ((bN l (p + 1) : Int) - 128) * 64 + ((bN l (p + 2) : Int) - 128)
 else ((bN l p : Int) - 240) * 262144 + ((bN l (p + 1) : Int) - 128) * 4096 + ((bN l (p + 2) : Int) - 128) * 64 + ((bN l (p + 3) : Int) - 128)
def q25 (l : List UInt8) (p n : Nat) : Bool := q6l (cvN l p n) && (((uenc (cvN l p n).toNat).length == n) && (uenc (cvN l p n).toNat).isPrefixOf (l.drop p))
theorem q5y {i : Nat} : q3h l p i = 0 ↔ p + i < l.length ∧ 128 ≤ bN l (p + i) ∧ bN l (p + i) < 192 ∧ (i = 1 → ulo (q1t l p) ≤ bN l (p + i) ∧ bN l (p + i) ≤ uhi (q1t l p)) := by
 unfold q3h ucont usec bN
 by_cases h : p + i < l.length
 · rw [if_pos h]
   simp only [decide_eq_true_eq]
   split
   · rename_i h2; simp only [h, true_and, true_iff]; exact ⟨h2.1.1, h2.1.2, h2.2⟩
   · rename_i h2
     constructor
     · intro h3; omega
     · intro h3; exact absurd ⟨⟨h3.2.1, h3.2.2.1⟩, h3.2.2.2⟩ h2
 · rw [if_neg h]
   constructor
   · intro h3; omega
   · intro h3; exact absurd h3.1 h
theorem q5x {k : Nat} : q3g l p (k + 1) = 0 ↔ q3g l p k = 0 ∧ q3h l p (k + 1) = 0 := by
 simp only [q3g]
 split
 · rename_i h; simp [h]
 · rename_i h; simp [h]
theorem ulo_le (c : UInt8) : (c.toNat = 224 → ulo c = 160) ∧ (c.toNat = 240 → ulo c = 144) ∧ (c.toNat ≠ 224 → c.toNat ≠ 240 → ulo c = 128) := by
 unfold ulo
 refine ⟨fun h => by rw [if_pos h], fun h => by rw [if_neg (by omega), if_pos h], fun h h' => by rw [if_neg h, if_neg h']⟩
theorem uhi_le (c : UInt8) : (c.toNat = 237 → uhi c = 159) ∧ (c.toNat = 244 → uhi c = 143) ∧ (c.toNat ≠ 237 → c.toNat ≠ 244 → uhi c = 191) := by
 unfold uhi
 refine ⟨fun h => by rw [if_pos h], fun h => by rw [if_neg (by omega), if_pos h], fun h h' => by rw [if_neg h, if_neg h']⟩
theorem z28 {c : UInt8} (h : c.toNat < 128) : q2b c = 1 := by unfold q2b; rw [if_pos h]
theorem j8a {c : UInt8} (h : 194 ≤ c.toNat) (h' : c.toNat < 224) : q2b c = 2 := by unfold q2b; rw [if_neg (by omega), if_neg (by omega), if_pos h']
theorem j79 {c : UInt8} (h : 224 ≤ c.toNat) (h' : c.toNat < 240) : q2b c = 3 := by unfold q2b; rw [if_neg (by omega), if_neg (by omega), if_neg (by omega), if_pos h']
theorem j78 {c : UInt8} (h : 240 ≤ c.toNat) (h' : c.toNat < 245) : q2b c = 4 := by unfold q2b; rw [if_neg (by omega), if_neg (by omega), if_neg (by omega), if_neg (by omega), if_pos h']
theorem z67 {c : UInt8} (h : (128 ≤ c.toNat ∧ c.toNat < 194) ∨ 245 ≤ c.toNat) : q2b c = 0 := by
 unfold q2b
 rcases h with h | h
 · rw [if_neg (by omega), if_pos (by omega)]
 · rw [if_neg (by omega), if_neg (by omega), if_neg (by omega), if_neg (by omega), if_neg (by omega)]
theorem j6m {n : Nat} (h : q40 l p n) : uerr l p = 0 ∧ ulen l p = n := by
 have hlo := ulo_le (q1t l p)
 have hhi := uhi_le (q1t l p)
 unfold q40 at h
 unfold uerr ulen
 rcases h with ⟨rfl, h0, h1⟩ | ⟨rfl, h0, h1, h2, h3, h4⟩ | ⟨rfl, h0, h1, h2, h3, h4, h5, h6, h7, h8⟩ | ⟨rfl, h0, h1, h2, h3, h4, h5, h6, h7, h8, h9, h10⟩
 · rw [if_pos h0, z28 h1]
   exact ⟨rfl, rfl⟩
 · rw [if_pos (by omega), j8a h1 h2]
   refine ⟨?_, rfl⟩
   rw [if_neg (by decide)]
   have e1 : q3h l p 1 = 0 := q5y.2 ⟨h0, h3, h4, fun _ => by unfold bN at *; rw [hlo.2.2 (by omega) (by omega), hhi.2.2 (by omega) (by omega)]; omega⟩
   exact q5x.2 ⟨rfl, e1⟩
 · rw [if_pos (by omega), j79 h1 h2]
   refine ⟨?_, rfl⟩
   rw [if_neg (by decide)]
   have e1 : q3h l p 1 = 0 := q5y.2 ⟨by omega, h3, h4, fun _ => by
    unfold bN at *
    constructor
    · by_cases q : (q1t l p).toNat = 224
      · rw [hlo.1 q]; exact h7 q
      · rw [hlo.2.2 q (by omega)]; exact h3
    · by_cases q : (q1t l p).toNat = 237
      · rw [hhi.1 q]; exact h8 q
      · rw [hhi.2.2 q (by omega)]; omega⟩
   have e2 : q3h l p 2 = 0 := q5y.2 ⟨by omega, h5, h6, fun q => by omega⟩
   exact q5x.2 ⟨q5x.2 ⟨rfl, e1⟩, e2⟩
 · rw [if_pos (by omega), j78 h1 h2]
   refine ⟨?_, rfl⟩
   rw [if_neg (by decide)]
   have e1 : q3h l p 1 = 0 := q5y.2 ⟨by omega, h3, h4, fun _ => by
    unfold bN at *
    constructor
    · by_cases q : (q1t l p).toNat = 240
      · rw [hlo.2.1 q]; exact h9 q
      · rw [hlo.2.2 (by omega) q]; exact h3
    · by_cases q : (q1t l p).toNat = 244
      · rw [hhi.2.1 q]; exact h10 q
      · rw [hhi.2.2 (by omega) q]; omega⟩
   have e2 : q3h l p 2 = 0 := q5y.2 ⟨by omega, h5, h6, fun q => by omega⟩
   have e3 : q3h l p 3 = 0 := q5y.2 ⟨by omega, h7, h8, fun q => by omega⟩
   exact q5x.2 ⟨q5x.2 ⟨q5x.2 ⟨rfl, e1⟩, e2⟩, e3⟩
theorem j3s (h : uerr l p = 0) : q40 l p (ulen l p) := by
 have hlo := ulo_le (q1t l p)
 have hhi := uhi_le (q1t l p)
 unfold uerr at h
 unfold ulen q40
 by_cases hp : p < l.length
 · rw [if_pos hp] at h
   have hb := bN_lt l p
   unfold bN at hb
   have hr : (q1t l p).toNat < 128 ∨ ((128 ≤ (q1t l p).toNat ∧ (q1t l p).toNat < 194) ∨ 245 ≤ (q1t l p).toNat) ∨ (194 ≤ (q1t l p).toNat ∧ (q1t l p).toNat < 224) ∨ (224 ≤ (q1t l p).toNat ∧ (q1t l p).toNat < 240) ∨ (240 ≤ (q1t l p).toNat ∧ (q1t l p).toNat < 245) := by omega
   rcases hr with hr | hr | hr | hr | hr
   · rw [z28 hr]; exact .inl ⟨rfl, hp, hr⟩
   · rw [z67 hr, if_pos rfl] at h; omega
   · rw [j8a hr.1 hr.2, if_neg (by decide)] at h
     rw [j8a hr.1 hr.2]
     have e1 := q5y.1 (q5x.1 h).2
     exact .inr (.inl ⟨rfl, e1.1, hr.1, hr.2, e1.2.1, e1.2.2.1⟩)
   · rw [j79 hr.1 hr.2, if_neg (by decide)] at h
     rw [j79 hr.1 hr.2]
     have h2 := q5x.1 h
     have e2 := q5y.1 h2.2
     have e1 := q5y.1 (q5x.1 h2.1).2
     have e1' := e1.2.2.2 rfl
     refine .inr (.inr (.inl ⟨rfl, e2.1, hr.1, hr.2, e1.2.1, e1.2.2.1, e2.2.1, e2.2.2.1, fun q => ?_, fun q => ?_⟩))
     · rw [hlo.1 q] at e1'; exact e1'.1
     · rw [hhi.1 q] at e1'; exact e1'.2
   · rw [j78 hr.1 hr.2, if_neg (by decide)] at h
     rw [j78 hr.1 hr.2]
     have h3 := q5x.1 h
     have e3 := q5y.1 h3.2
     have h2 := q5x.1 h3.1
     have e2 := q5y.1 h2.2
     have e1 := q5y.1 (q5x.1 h2.1).2
     have e1' := e1.2.2.2 rfl
     refine .inr (.inr (.inr ⟨rfl, e3.1, hr.1, hr.2, e1.2.1, e1.2.2.1, e2.2.1, e2.2.2.1, e3.2.1, e3.2.2.1, fun q => ?_, fun q => ?_⟩))
     · rw [hlo.2.1 q] at e1'; exact e1'.1
     · rw [hhi.2.1 q] at e1'; exact e1'.2
 · rw [if_neg hp] at h; omega
theorem drop_cons {l : List UInt8} {p : Nat} (h : p < l.length) : l.drop p = q1t l p :: l.drop (p + 1) := by
 rw [List.drop_eq_getElem_cons h]
 unfold q1t
 rw [List.getElem?_eq_getElem h]
 rfl
theorem q7y {l : List UInt8} : ∀ (xs : List UInt8) (p : Nat), xs ≠ [] → (xs.isPrefixOf (l.drop p) = true ↔ p + xs.length ≤ l.length ∧ ∀ i, i < xs.length → q1t l (p + i) = xs[i]?.getD 0) := by
 intro xs
 induction xs with
 | nil => intro p h; exact absurd rfl h
 | cons x xs ih =>
   intro p _
   by_cases hp : p < l.length
   · rw [drop_cons hp, List.isPrefixOf_cons_cons, Bool.and_eq_true, beq_iff_eq]
     by_cases hx : xs = []
     · subst hx
       simp
       constructor
       · intro h; exact ⟨by omega, h.symm⟩
       · intro h; exact h.2.symm
     · rw [ih (p + 1) hx]
       constructor
       · rintro ⟨h1, h2, h3⟩
         refine ⟨by simp; omega, fun i hi => ?_⟩
         cases i with
         | zero => simpa using h1.symm
         | succ i =>
           have := h3 i (by simp at hi; omega)
           rw [show p + (i + 1) = p + 1 + i from by omega, this]
           simp
       · rintro ⟨h1, h2⟩
         refine ⟨by simpa using (h2 0 (by simp)).symm, by simp at h1; omega, fun i hi => ?_⟩
         have := h2 (i + 1) (by simp; omega)
         rw [show p + 1 + i = p + (i + 1) from by omega, this]
         simp
   · rw [List.drop_eq_nil_of_le (by omega)]
     constructor
     · intro h; simp at h
     · intro h; simp at h; omega
theorem q6u {c : UInt8} {n : Nat} (h : c.toNat = n) (hn : n < 256) : c = n.toUInt8 := by
 apply UInt8.toNat_inj.1
 simp
 omega
theorem q6v {c : UInt8} {n : Nat} (h : c = n.toUInt8) (hn : n < 256) : c.toNat = n := by
 rw [h]
 simp
 omega
theorem q8s {c : Int} : q6l c = true ↔ 0 ≤ c ∧ c ≤ 1114111 ∧ (c < 55296 ∨ 57344 ≤ c) := by unfold q6l; simp
theorem j4l {n : Nat} (h : q40 l p n) : q25 l p n = true := by
 unfold q40 at h
 unfold q25
 rw [Bool.and_eq_true, Bool.and_eq_true, q8s, beq_iff_eq]
 rcases h with ⟨rfl, h0, h1⟩ | ⟨rfl, h0, h1, h2, h3, h4⟩ | ⟨rfl, h0, h1, h2, h3, h4, h5, h6, h7, h8⟩ | ⟨rfl, h0, h1, h2, h3, h4, h5, h6, h7, h8, h9, h10⟩
 · have hc : cvN l p 1 = (bN l p : Int) := rfl
   obtain ⟨c, e⟩ : ∃ c, c = (cvN l p 1).toNat := ⟨_, rfl⟩
   have hu : uenc c = [c.toUInt8] := by unfold uenc; rw [if_pos (by omega)]
   rw [← e, hu]
   refine ⟨by omega, rfl, (q7y _ p (by simp)).2 ⟨by simp; omega, fun i hi => ?_⟩⟩
   simp at hi
   subst hi
   exact q6u (by unfold bN at *; simp; omega) (by omega)
 · have hc : cvN l p 2 = ((bN l p : Int) - 192) * 64 + ((bN l (p + 1) : Int) - 128) := rfl
   obtain ⟨c, e⟩ : ∃ c, c = (cvN l p 2).toNat := ⟨_, rfl⟩
   have hu : uenc c = [(192 + c / 64).toUInt8, (128 + c % 64).toUInt8] := by unfold uenc; rw [if_neg (by omega), if_pos (by omega)]
   rw [← e, hu]
   refine ⟨by omega, rfl, (q7y _ p (by simp)).2 ⟨by simp; omega, fun i hi => ?_⟩⟩
   simp at hi
   have hi : i = 0 ∨ i = 1 := by omega
   rcases hi with rfl | rfl
   · exact q6u (by unfold bN at *; simp; omega) (by omega)
   · exact q6u (by unfold bN at *; omega) (by omega)
 · have hc : cvN l p 3 = ((bN l p : Int) - 224) * 4096 + ((bN l (p + 1) : Int) - 128) * 64 + ((bN l (p + 2) : Int) - 128) := rfl
   obtain ⟨c, e⟩ : ∃ c, c = (cvN l p 3).toNat := ⟨_, rfl⟩
   have hu : uenc c = [(224 + c / 4096).toUInt8, (128 + c / 64 % 64).toUInt8, (128 + c % 64).toUInt8] := by unfold uenc; rw [if_neg (by omega), if_neg (by omega), if_pos (by omega)]
   rw [← e, hu]
   refine ⟨by omega, rfl, (q7y _ p (by simp)).2 ⟨by simp; omega, fun i hi => ?_⟩⟩
   simp at hi
   have hi : i = 0 ∨ i = 1 ∨ i = 2 := by omega
   rcases hi with rfl | rfl | rfl
   · exact q6u (by unfold bN at *; simp; omega) (by omega)
   · exact q6u (by unfold bN at *; omega) (by omega)
   · exact q6u (by unfold bN at *; omega) (by omega)
 · have hc : cvN l p 4 = ((bN l p : Int) - 240) * 262144 + ((bN l (p + 1) : Int) - 128) * 4096 + ((bN l (p + 2) : Int) - 128) * 64 + ((bN l (p + 3) : Int) - 128) := rfl
   obtain ⟨c, e⟩ : ∃ c, c = (cvN l p 4).toNat := ⟨_, rfl⟩
   have hu : uenc c = [(240 + c / 262144).toUInt8, (128 + c / 4096 % 64).toUInt8, (128 + c / 64 % 64).toUInt8, (128 + c % 64).toUInt8] := by unfold uenc; rw [if_neg (by omega), if_neg (by omega), if_neg (by omega)]
   rw [← e, hu]
   refine ⟨by omega, rfl, (q7y _ p (by simp)).2 ⟨by simp; omega, fun i hi => ?_⟩⟩
   simp at hi
   have hi : i = 0 ∨ i = 1 ∨ i = 2 ∨ i = 3 := by omega
   rcases hi with rfl | rfl | rfl | rfl
   · exact q6u (by unfold bN at *; simp; omega) (by omega)
   · exact q6u (by unfold bN at *; omega) (by omega)
   · exact q6u (by unfold bN at *; omega) (by omega)
   · exact q6u (by unfold bN at *; omega) (by omega)
theorem z66 (c : Nat) : (c < 128 ∧ uenc c = [c.toUInt8]) ∨ (128 ≤ c ∧ c < 2048 ∧ uenc c = [(192 + c / 64).toUInt8, (128 + c % 64).toUInt8]) ∨
  (2048 ≤ c ∧ c < 65536 ∧ uenc c = [(224 + c / 4096).toUInt8, (128 + c / 64 % 64).toUInt8, (128 + c % 64).toUInt8]) ∨ (65536 ≤ c ∧ uenc c = [(240 + c / 262144).toUInt8, (128 + c / 4096 % 64).toUInt8, (128 + c / 64 % 64).toUInt8, (128 + c % 64).toUInt8]) := by
 unfold uenc
 by_cases h1 : c < 128
 · exact .inl ⟨h1, if_pos h1⟩
 by_cases h2 : c < 2048
 · exact .inr (.inl ⟨by omega, h2, by rw [if_neg h1, if_pos h2]⟩)
 by_cases h3 : c < 65536
 · exact .inr (.inr (.inl ⟨by omega, h3, by rw [if_neg h1, if_neg h2, if_pos h3]⟩))
 · exact .inr (.inr (.inr ⟨by omega, by rw [if_neg h1, if_neg h2, if_neg h3]⟩))
theorem enc_form {c : Nat} (hc : q6l (c : Int) = true) (h : (uenc c).isPrefixOf (l.drop p) = true) : q40 l p (uenc c).length := by
 have hch := q8s.1 hc
 unfold q40
 rcases z66 c with ⟨h1, e⟩ | ⟨h1, h2, e⟩ | ⟨h1, h2, e⟩ | ⟨h1, e⟩
 · rw [e] at h ⊢
   obtain ⟨q1, q2⟩ := (q7y _ p (by simp)).1 h
   have b0 := q6v (q2 0 (by simp)) (by omega)
   simp at q1 b0
   refine .inl ⟨rfl, by omega, by unfold bN; omega⟩
 · rw [e] at h ⊢
   obtain ⟨q1, q2⟩ := (q7y _ p (by simp)).1 h
   have b0 := q6v (q2 0 (by simp)) (by omega)
   have b1 := q6v (q2 1 (by simp)) (by omega)
   simp only [Nat.add_zero, List.length_cons, List.length_nil] at q1 b0
   refine .inr (.inl ⟨rfl, by omega, ?_⟩)
   unfold bN
   omega
 · rw [e] at h ⊢
   obtain ⟨q1, q2⟩ := (q7y _ p (by simp)).1 h
   have b0 := q6v (q2 0 (by simp)) (by omega)
   have b1 := q6v (q2 1 (by simp)) (by omega)
   have b2 := q6v (q2 2 (by simp)) (by omega)
   simp only [Nat.add_zero, List.length_cons, List.length_nil] at q1 b0
   refine .inr (.inr (.inl ⟨rfl, by omega, ?_⟩))
   unfold bN
   omega
 · rw [e] at h ⊢
   obtain ⟨q1, q2⟩ := (q7y _ p (by simp)).1 h
   have b0 := q6v (q2 0 (by simp)) (by omega)
   have b1 := q6v (q2 1 (by simp)) (by omega)
   have b2 := q6v (q2 2 (by simp)) (by omega)
   have b3 := q6v (q2 3 (by simp)) (by omega)
   simp only [Nat.add_zero, List.length_cons, List.length_nil] at q1 b0
   refine .inr (.inr (.inr ⟨rfl, by omega, ?_⟩))
   unfold bN
   omega
theorem z21 {n : Nat} (h : q25 l p n = true) : q40 l p n := by
 unfold q25 at h
 rw [Bool.and_eq_true, Bool.and_eq_true, beq_iff_eq] at h
 obtain ⟨h1, h2, h3⟩ := h
 have h0 := q8s.1 h1
 have := enc_form (l := l) (p := p) (c := (cvN l p n).toNat) (by rw [show (((cvN l p n).toNat : Nat) : Int) = cvN l p n from by omega]; exact h1) h3
 rwa [h2] at this
def q3r (l : List UInt8) (p : Nat) : Int := if uerr l p = 0 then cvN l p (ulen l p) else -1
theorem wtest_n {n : Nat} (h : q25 l p n = true) : q3r l p = cvN l p n := by
 obtain ⟨h1, h2⟩ := j6m (z21 h)
 unfold q3r
 rw [if_pos h1, h2]
theorem z7z (h1 : q25 l p 1 = false) (h2 : q25 l p 2 = false) (h3 : q25 l p 3 = false) (h4 : q25 l p 4 = false) : q3r l p = -1 := by
 unfold q3r
 rw [if_neg]
 intro he
 have hf := j3s he
 have ht := j4l hf
 have hn : ulen l p = 1 ∨ ulen l p = 2 ∨ ulen l p = 3 ∨ ulen l p = 4 := by unfold q40 at hf; omega
 rcases hn with hn | hn | hn | hn <;> rw [hn] at ht <;> simp_all
theorem z7y {n : Nat} (h : l.length < p + n) : q25 l p n = false ∨ n = 0 := by
 by_cases h0 : n = 0
 · exact .inr h0
 · left
   cases ht : q25 l p n with
   | false => rfl
   | true =>
     have := z21 ht
     unfold q40 at this
     omega
theorem z3o (h : 0 ≤ q3r l p) : uerr l p = 0 ∧ q6l (q3r l p) = true ∧ (uenc (q3r l p).toNat).length = ulen l p := by
 unfold q3r at h ⊢
 by_cases he : uerr l p = 0
 · rw [if_pos he] at h ⊢
   have ht := j4l (j3s he)
   unfold q25 at ht
   rw [Bool.and_eq_true, Bool.and_eq_true, beq_iff_eq] at ht
   exact ⟨he, ht.1, ht.2.1⟩
 · rw [if_neg he] at h
   omega
theorem notest {m : List UInt8} {n : Nat} (h : ∀ k, 1 ≤ k → k < n → q25 m 0 k = false) (hn : q25 m 0 n = false) : ∀ k, 1 ≤ k → k < n + 1 → q25 m 0 k = false := by
 intro k h1 h2
 rcases Nat.lt_or_ge k n with h3 | h3
 · exact h k h1 h3
 · obtain rfl : k = n := by omega
   exact hn
theorem z4w (l : List UInt8) (p i : Nat) : q1t (l.drop p) i = q1t l (p + i) := by
 unfold q1t
 rw [List.getElem?_drop]
theorem bN_drop (l : List UInt8) (p i : Nat) : bN (l.drop p) i = bN l (p + i) := by unfold bN; rw [z4w]
theorem z0d {l : List UInt8} {p n : Nat} : q40 (l.drop p) 0 n ↔ q40 l p n := by
 have e : ∀ k, (k < l.length - p) = (p + k < l.length) := fun k => propext (by omega)
 unfold q40
 simp only [bN_drop, List.length_drop, Nat.zero_add, Nat.add_zero, e]
theorem cvN_drop (l : List UInt8) (p n : Nat) : cvN (l.drop p) 0 n = cvN l p n := by
 unfold cvN
 simp only [bN_drop, Nat.zero_add, Nat.add_zero]
theorem z7u (l : List UInt8) (p : Nat) : q3r (l.drop p) 0 = q3r l p := by
 by_cases h : uerr l p = 0
 · have hf := j3s h
   have h2 := j6m (z0d.2 hf)
   unfold q3r
   rw [if_pos h, if_pos h2.1, h2.2, cvN_drop]
 · have h2 : uerr (l.drop p) 0 ≠ 0 := fun e => h (j6m (z0d.1 (j3s e))).1
   unfold q3r
   rw [if_neg h, if_neg h2]
def q1f (j : Nat) : List UInt8 := if j = 0 then [128, 128, 128] else if j = 1 then [191, 191, 191] else if j = 2 then [160, 128, 128] else if j = 3 then [144, 128, 128] else if j = 4 then [143, 191, 191] else [159, 191, 191]
theorem j6g (j : Nat) : (q1f j).length = 3 := by
 unfold q1f
 repeat' split
 all_goals rfl
end

def byP (b : UInt8) : List PV := [.v (.int .u8 (b.toNat : Int))]
theorem bpvOk (l : List UInt8) : q51 (q0o l) = True := eq_true (bytePV_ok l)
theorem z5y (c : Int) : Told Tryz.prog 256 [.c (.v (.int .i64 c))] (.c (.v (.bool (q6l c)))) := by
 obtain ⟨V, hV⟩ : ∃ V, V = q6l c := ⟨_, rfl⟩
 rw [← hV]
 have hv : V = ((decide (c ≥ 0) && decide (c ≤ 1114111)) && (decide (c < 55296) || decide (c > 57343))) := by
  rw [hV, q6l, Bool.eq_iff_iff]
  simp
  omega
 clear hV
 replace hv := Lib.hid hv
 refine VC.toldP ent_256 Tryz.func256 rfl Tryz.ntmps256 fun hb => ?_
 clear hb
 refine q0c ?_
 refine retX Tryz.results256 ?_
 rw [hv.out]
 exact .c _
theorem j7q (c : Nat) (hc : c ≤ 1114111) : Told Tryz.prog 257 [.c (.v (.int .i64 (c : Int)))] (.c (.sl 1 (q0o (uenc c)))) := by
 have hU : ∀ (z : Int) (n : Nat), z = (n : Int) → n < 256 → IntKind.u8.wrap z = ((n.toUInt8).toNat : Int) := fun z n h1 h2 => by
  rw [IntKind.wrap_u8, h1]
  simp
 have hQ : ∀ (a b : Nat), a ≤ 1114111 → IntKind.i64.wrap (Int.tdiv (a : Int) (b : Int)) = ((a / b : Nat) : Int) := fun a b h => by
  have e : Int.tdiv (a : Int) (b : Int) = ((a / b : Nat) : Int) := by simp [Int.tdiv]
  have := Nat.div_le_self a b
  rw [e]
  generalize a / b = q at this
  exact q0w (by omega) (by omega)
 have hR : ∀ (a b : Nat), Int.tmod (a : Int) (b : Int) = ((a % b : Nat) : Int) := fun a b => by simp [Int.tmod]
 have hW : ∀ (k n : Nat), k + n < 256 → IntKind.u8.wrap (IntKind.i64.wrap ((k : Int) + (n : Int))) = (((k + n).toUInt8).toNat : Int) := fun k n h => by
  rw [q0w (by omega) (by omega)]
  exact hU _ (k + n) (by omega) h
 have q1 := hQ c 64 hc
 have q2 := hQ c 4096 hc
 have q3 := hQ c 262144 hc
 have r1 := hR c 64
 have r2 := hR (c / 64) 64
 have r3 := hR (c / 4096) 64
 by_cases h1 : c < 128
 · have hE : uenc c = [c.toUInt8] := by rw [uenc, if_pos h1]
   have e1 : decide ((c : Int) < 128) = true := by simp; omega
   rw [hE]
   refine VC.toldP j4f Tryz.func257 rfl Tryz.ntmps257 fun hb => ?_
   clear hb
   refine q0f (e1) ?_
   rw [hU (c : Int) c rfl (by omega)]
   refine retX Tryz.results257 ?_
   exact q43 (f := byP) (l := [c.toUInt8]) rfl rfl rfl (by simp [byP])
 have e1 : decide ((c : Int) < 128) = false := by simp; omega
 by_cases h2 : c < 2048
 · have hE : uenc c = [(192 + c / 64).toUInt8, (128 + c % 64).toUInt8] := by rw [uenc, if_neg h1, if_pos h2]
   have e2 : decide ((c : Int) < 2048) = true := by simp; omega
   rw [hE]
   refine VC.toldP j4f Tryz.func257 rfl Tryz.ntmps257 fun hb => ?_
   clear hb
   refine q0f (And.intro e1 e2) ?_
   rw [show (64 : Int) = ((64 : Nat) : Int) from rfl, q1, r1, show (192 : Int) = ((192 : Nat) : Int) from rfl, show (128 : Int) = ((128 : Nat) : Int) from rfl, hW 192 _ (by omega), hW 128 _ (by omega)]
   refine retX Tryz.results257 ?_
   exact q43 (f := byP) (l := [(192 + c / 64).toUInt8, (128 + c % 64).toUInt8]) rfl rfl rfl (by simp [byP])
 have e2 : decide ((c : Int) < 2048) = false := by simp; omega
 by_cases h3 : c < 65536
 · have hE : uenc c = [(224 + c / 4096).toUInt8, (128 + c / 64 % 64).toUInt8, (128 + c % 64).toUInt8] := by rw [uenc, if_neg h1, if_neg h2, if_pos h3]
   have e3 : decide ((c : Int) < 65536) = true := by simp; omega
   rw [hE]
   refine VC.toldP j4f Tryz.func257 rfl Tryz.ntmps257 fun hb => ?_
   clear hb
   refine q0f (And.intro e1 (And.intro e2 e3)) ?_
   rw [show (64 : Int) = ((64 : Nat) : Int) from rfl, show (4096 : Int) = ((4096 : Nat) : Int) from rfl, q1, q2, r1, r2, show (224 : Int) = ((224 : Nat) : Int) from rfl, show (128 : Int) = ((128 : Nat) : Int) from rfl, hW 224 _ (by omega), hW 128 (c / 64 % 64) (by omega), hW 128 (c % 64) (by omega)]
   refine retX Tryz.results257 ?_
   exact q43 (f := byP) (l := [(224 + c / 4096).toUInt8, (128 + c / 64 % 64).toUInt8, (128 + c % 64).toUInt8]) rfl rfl rfl (by simp [byP])
 · have hE : uenc c = [(240 + c / 262144).toUInt8, (128 + c / 4096 % 64).toUInt8, (128 + c / 64 % 64).toUInt8, (128 + c % 64).toUInt8] := by rw [uenc, if_neg h1, if_neg h2, if_neg h3]
   have e3 : decide ((c : Int) < 65536) = false := by simp; omega
   rw [hE]
   refine VC.toldP j4f Tryz.func257 rfl Tryz.ntmps257 fun hb => ?_
   clear hb
   refine q0f (And.intro e1 (And.intro e2 e3)) ?_
   rw [show (64 : Int) = ((64 : Nat) : Int) from rfl, show (4096 : Int) = ((4096 : Nat) : Int) from rfl, show (262144 : Int) = ((262144 : Nat) : Int) from rfl, q1, q2, q3, r1, r2, r3, show (240 : Int) = ((240 : Nat) : Int) from rfl, show (128 : Int) = ((128 : Nat) : Int) from rfl, hW 240 _ (by omega), hW 128 (c / 64 % 64) (by omega), hW 128 (c % 64) (by omega), hW 128 (c / 4096 % 64) (by omega)]
   refine retX Tryz.results257 ?_
   exact q43 (f := byP) (l := [(240 + c / 262144).toUInt8, (128 + c / 4096 % 64).toUInt8, (128 + c / 64 % 64).toUInt8, (128 + c % 64).toUInt8]) rfl rfl rfl (by simp [byP])
theorem z6p (b a : List UInt8) (hb1 : b.length ≤ 1000000) (ha1 : a.length ≤ 1000000) : Told Tryz.prog 303 [.c (.sl 1 (q0o b)), .c (.sl 1 (q0o a))] (.c (.v (.bool (a.isPrefixOf b)))) := by
 have la : (q0o a).length = a.length := by simp [q0o]
 have lb : (q0o b).length = b.length := by simp [q0o]
 have tb : (q0o b).take a.length = q0o (b.take a.length) := by simp [q0o, List.map_take]
 by_cases h : a.length ≤ b.length
 · have hv : a.isPrefixOf b = (b.take a.length == a) := by
    rw [Bool.eq_iff_iff, List.isPrefixOf_iff_prefix, List.prefix_iff_eq_take, beq_iff_eq]
    exact ⟨fun e => e.symm, fun e => e.symm⟩
   have e1 : decide ((a.length : Int) ≤ (b.length : Int)) = true := by simp; omega
   have s1 : (⟨(b.take a.length).toArray⟩ : ByteArray).toList = b.take a.length := q2i _
   have s2 : (⟨a.toArray⟩ : ByteArray).toList = a := q2i _
   rw [hv]
   refine VC.toldP ent_303 Tryz.func303 rfl Tryz.ntmps303 fun hb => ?_
   clear hb
   (repeat (first | refine pass ?_ | refine VC.region (by rfl) (by rfl) ?_ | (refine AO.step fun K hK => ?_; simp only [la, lb, e1, tb, j9k, bpvOk, bstr, s1, s2, go_sem, Int.reduceBEq, Int.reduceLE, Int.reduceLT, Int.reduceNeg, Nat.reduceAdd, Nat.reduceEqDiff, Nat.reduceLT, Nat.reduceLeDiff, Nat.reduceMul, Nat.reduceSub, reduceCtorEq, ↓reduceIte]; (first | refine q38 ?_ | refine q1m ?_ | skip); (first | refine hK _ _ _ ?_ | refine ⟨by first | omega | exact ⟨_, rfl, rfl⟩ | exact fun _ => ⟨_, rfl, rfl⟩ | (intro h; simp only [la, lb, e1, tb, j9k, bpvOk, bstr, s1, s2, h, true_and]; omega) | (clear hK; intro h; simp_all <;> omega), hK _ _ _ ?_⟩); clear hK K) | refine VC.draw mixP (by rfl) (by rfl) ?_ | refine ⟨q4b (by kernel_rfl), ?_⟩ | refine BQ.other (by decide) ?_ | refine VC.seq ?_ | refine AO.nil ?_ | refine VC.block ?_))
   refine retX Tryz.results303 ?_
   exact .c _
 · have hv : a.isPrefixOf b = false := by
    rw [Bool.eq_false_iff]
    intro e
    exact h (List.isPrefixOf_iff_prefix.1 e).length_le
   have e1 : decide ((a.length : Int) ≤ (b.length : Int)) = false := by simp; omega
   rw [hv]
   refine VC.toldP ent_303 Tryz.func303 rfl Tryz.ntmps303 fun hb => ?_
   clear hb
   refine q0f (And.intro la (And.intro lb e1)) ?_
   refine retX Tryz.results303 ?_
   exact .c _

inductive MQF {ι : Type} (l : ι → List (Nat × AV)) (hl : ι → List (Nat × Blkd)) (n : Nat) (Q : Exit → ASt → Prop) : Exit → ASt → Prop
 | normal {σ : ASt} (j : ι) (h : Weak σ (l j) (hl j) n) : MQF l hl n Q .normal σ
 | ret {σ : ASt} (h : Q .ret σ) : MQF l hl n Q .ret σ
 | exit {σ : ASt} {id : Nat} (h : Q (.exit id) σ) : MQF l hl n Q (.exit id) σ
instance pF1 {ι : Type} {lv : ι → List (Nat × AV)} {hl : ι → List (Nat × Blkd)} {n : Nat} {σ : ASt} {Q : Exit → ASt → Prop} : Pass (MQF lv hl n Q .ret σ) (Q .ret σ) := ⟨.ret⟩
instance pF2 {ι : Type} {lv : ι → List (Nat × AV)} {hl : ι → List (Nat × Blkd)} {n : Nat} {σ : ASt} {Q : Exit → ASt → Prop} {id : Nat} : Pass (MQF lv hl n Q (.exit id) σ) (Q (.exit id) σ) := ⟨.exit⟩
end
end Go.Proofs.YthkofkaocipomaaGreatDoor
