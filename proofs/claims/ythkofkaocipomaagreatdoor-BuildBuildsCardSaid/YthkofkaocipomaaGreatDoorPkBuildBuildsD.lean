/- Texts that lead to the law BuildBuilds, joined. -/
import Derived.Test.YthkofkaocipomaaGreatDoorPkBuildBuildsB
import Derived.Test.YthkofkaocipomaaGreatDoorPkBuildBuildsA
import Derived.Test.YthkofkaocipomaaGreatDoorPkBuildBuildsC
namespace Go.Proofs.YthkofkaocipomaaGreatDoor
set_option maxRecDepth 100000
set_option maxHeartbeats 6400000
open Go.RowKit
set_option linter.unusedVariables false
set_option linter.unusedSimpArgs false
section
attribute [local go_sem] opx opE ev okx q5a bnd okO AV.get AV.okb cAV q8a q83 q82 j1w q60 q8z q8y st q8h q50 q8j q8k q8i binV binI binS q4s q5j q5b q5k unV q5w q4a q3m q00 q2d Blkd.len setE grown q1r q4x q3n q26 pv q41 q3t q4o AV.cellish AV.pureL AV.pureB q8w q8m AV.ren AV.renL q85 Blkd.ren rho wrM renN q2w rhoE q4m q4t q75 q78 j1b j1e j1i j1n j1q q7i q9a q9f q9g q9l q9p q9r q9s q9t q9y q93 q98 q76 q77 j0e q7h j0j j0k j0m j0n j08 j09 j1a j1c j1d j1f j1g j1h j1j j1k j1l j1m j1o j1p j1r j1s j1t j1u j1v q9b q9c q9d q9e q9h q9i q9j q9k q9m q9n q9o q9q q9u q9v q9w q9x q9z q90 q91 q92 q94 q95 q96 q97 q99 j0a j0b j0c j0d j0f j0g j0h j0i j0l j0o j0p j0q j0r j0s j0t j0u j0v j0w j0x j0y j0z j00 j01 j02 j03 j04 j05 j06 j07 Option.map_some Option.map_none Option.getD_some Option.getD_none Option.bind_some Option.bind_none List.getElem?_cons_zero List.getElem?_cons_succ List.getElem?_nil List.getElem?_toArray List.length_cons List.length_nil List.length_map List.forall_mem_map List.map_cons List.map_nil List.drop_zero List.drop_succ_cons List.drop_nil List.take_zero List.take_succ_cons List.take_nil List.mem_cons List.not_mem_nil or_false forall_eq_or_imp forall_eq List.set_cons_zero List.set_cons_succ List.cons_append List.nil_append List.append_nil List.foldl_cons List.foldl_nil List.replicate_succ List.replicate_zero List.all_cons List.all_nil if_true if_false Bool.false_eq_true ne_eq not_false_eq_true not_true_eq_false true_and and_true and_self true_implies imp_self implies_true forall_const beq_self_eq_true Bool.and_true Bool.true_and Bool.and_false Bool.false_and Bool.or_true Bool.true_or Bool.or_false Bool.false_or Bool.not_true Bool.not_false Bool.not_eq_eq_eq_not q55 Value.oneCell' Int.toNat_natCast beq_true beq_false Bool.not_eq_true false_implies false_or true_or or_true Nat.zero_add Nat.add_zero decide_true decide_false Int.cast_ofNat_Int Int.toNat_zero Int.toNat_one eq_self

theorem z4m (es : List EN) (j : JT) (hk : j.kd = 4) (a : List UInt8) (V : List NT × Int × Int) (hN : q1o 70 es 0 [strV j.txt, strV a] V) : q1o 35 es 0 [j.av, strV a] V := by
 unfold q1o strV at *
 obtain ⟨V1, V2, V3⟩ := V
 simp only [] at hN ⊢
 generalize es ++ V1.map EN.of = es' at *
 rw [JT.av_eq, q0m, hk]
 generalize j.num = j2 at *
 generalize j.txt = j3 at *
 generalize j.its = j4 at *
 generalize j.keys = j5 at *
 unfold xW xN at *
 refine VC.toldXF (And.intro @q0a @q0g) j26 [] Tryz.func35 rfl Tryz.ntmps35 fun hb hbL => ?_
 clear hb hbL
 refine q0f (And.intro @q0a @q0b) ?_
 refine q0i (And.intro @q0a @q0b) [1000000, 1000001] (hN) ?_
 refine q0d (And.intro @q0a @q0b) ?_
 refine q0j (@q0b) Tryz.results35 ?_
 exact .c _
theorem bnode_obj (es : List EN) (j : JT) (hk : j.kd = 6) (a : List UInt8) (V : List NT × Int × Int) (hN : q1o 72 es 0 [j.av, strV a] V) : q1o 35 es 0 [j.av, strV a] V := by
 unfold q1o strV at *
 obtain ⟨V1, V2, V3⟩ := V
 simp only [] at hN ⊢
 generalize es ++ V1.map EN.of = es' at *
 rw [JT.av_eq, q0m, hk] at *
 generalize j.num = j2 at *
 generalize j.txt = j3 at *
 generalize j.its = j4 at *
 generalize j.keys = j5 at *
 unfold xW xN at *
 refine VC.toldXF (And.intro @q0a @q0g) j26 [] Tryz.func35 rfl Tryz.ntmps35 fun hb hbL => ?_
 clear hb hbL
 refine q0f (And.intro @q0a @q0b) ?_
 refine q0i (And.intro @q0a @q0b) [1000000, 1000001] (hN) ?_
 refine q0d (And.intro @q0a @q0b) ?_
 refine q0j (@q0b) Tryz.results35 ?_
 exact .c _
def wtE (e : Int) (wt : Nat → Int) (n : Nat) : Int := fl e ((List.range n).any fun i => decide (1000 < wt i)) 3
theorem wtE_zero (e : Int) (wt : Nat → Int) : wtE e wt 0 = e := by
 unfold wtE fl
 split
 · rfl
 · simp; omega
theorem wtE_next (e : Int) (wt : Nat → Int) (n : Nat) : wtE e wt (n + 1) = fl (wtE e wt n) (wtE e wt n == 0 && decide (1000 < wt n)) 3 := by
 unfold wtE
 rw [List.range_succ, List.any_append]
 unfold fl
 by_cases he : e ≠ 0
 · simp [he]
 · simp only [ne_eq, Decidable.not_not] at he
   subst he
   cases ((List.range n).any fun i => decide (1000 < wt i)) <;> simp
def bldM (r : Bool) (V : List NT × Int × Int) (wt : Nat → Int) : ST × Int :=
 if r = false then (⟨[], 0⟩, 2) else if wtE V.2.2 wt V.1.length ≠ 0 then (⟨[], 0⟩, wtE V.2.2 wt V.1.length) else (⟨V.1, 0⟩, 0)
theorem j7e (l : List NT) : (l.map EN.of).map EN.cells = l.map NT.cells := by
 rw [List.map_map]
 rfl
theorem z37 (j : JT) (r : Bool) (hR : Told Tryz.prog 34 [j.av] (.c (.v (.bool r)))) (V : List NT × Int × Int) (hl : V.1.length ≤ 200) (hV : q1o 35 [] 0 [j.av, strV []] V) (wt : Nat → Int)
  (hw : ∀ i, i < V.1.length → V.2.2 = 0 → Told Tryz.prog 37 [(ST.mk V.1 0).av, .c (.v (.int .i64 (i : Int)))] (.c (.v (.int .i64 (wt i))))) :
  Told Tryz.prog 13 [j.av] (.tup [(bldM r V wt).1.av, .c (.v (.int .i64 (bldM r V wt).2))]) := by
 unfold bldM
 obtain ⟨V1, V2, V3⟩ := V
 simp only [] at hl hw ⊢
 unfold q1o strV at hV
 simp only [List.nil_append, List.length_nil, List.length_map] at hV
 rw [show str [] = ⟨#[]⟩ from rfl] at hV
 cases r with
 | false =>
   clear hV hw
   rw [if_pos rfl]
   simp only [ST.av_eq, List.map_nil]
   rw [JT.av_eq, q0m] at *
   generalize j.kd = j1 at *
   generalize j.num = j2 at *
   generalize j.txt = j3 at *
   generalize j.its = j4 at *
   generalize j.keys = j5 at *
   refine VC.toldP ent_13 Tryz.func13 rfl Tryz.ntmps13 fun hb => ?_
   clear hb
   refine q0c ?_
   refine q0e (hR) ?_
   refine q0u ?_
   refine retX Tryz.results13 ?_
   exact ⟨.aggL (.cons (.nil 10) (.cons (.c _) .nil)), .c _⟩
 | true =>
   rw [if_neg (by simp)]
   have hwt : ∀ i, i < V1.length → V3 = 0 → Told Tryz.prog 37 [.agg [.c (.sl 10 (V1.map NT.cells)), .c (.v (.int .i64 0))], .c (.v (.int .i64 (i : Int)))] (.c (.v (.int .i64 (wt i)))) := fun i hi he => hw i hi he
   clear hw
   have hfin : (if wtE V3 wt V1.length ≠ 0 then ((⟨[], 0⟩ : ST), wtE V3 wt V1.length) else (⟨V1, 0⟩, 0)) = (if wtE V3 wt V1.length ≠ 0 then ((⟨[], 0⟩ : ST), wtE V3 wt V1.length) else (⟨V1, 0⟩, 0)) := rfl
   rw [JT.av_eq, q0m] at *
   generalize j.kd = j1 at *
   generalize j.num = j2 at *
   generalize j.txt = j3 at *
   generalize j.its = j4 at *
   generalize j.keys = j5 at *
   unfold xW xN at hV
   refine VC.toldP ent_13 Tryz.func13 rfl Tryz.ntmps13 fun hb => ?_
   clear hb
   refine q0c ?_
   refine q0e (hR) ?_
   refine q0c ?_
   refine VC.condF (by rfl) (by trivial) ?_
   refine VC.skip ?_; refine SQ.normal ?_
   refine j21 ?_
   refine VC.nilH 56 0 40 10 ⟨false, 60, 3, [[.c (.v (.slice none 0 0)), .c (.v (.int .i64 0)), .c (.v (.int .i64 0))]]⟩ [.c (.v (.slice none 0 0)), .c (.v (.int .i64 0)), .c (.v (.int .i64 0))] (by rfl) rfl rfl (by rfl) (by rfl) ?_
   refine q0c ?_
   refine q0i (And.intro @q0a (And.intro @q0b @q32)) [56, 72] (hV) ?_
   refine q0d (And.intro @q0a @q0b) ?_
   refine VC.loop (ι := {i : Nat // i ≤ V1.length}) (fun q => [(2, .ref 8 1 0 0), (4, .ref 56 1 0 0), (20, .c (.v (.int .i64 (V1.length : Int)))), (21, .c (.v (.int .i64 (q.1 : Int))))])
    (fun q => [(56, ⟨false, 60, 3, [[.row 72 V1.length, .c (.v (.int .i64 0)), .c (.v (.int .i64 (wtE V3 wt q.1)))]]⟩), (72, ⟨true, 40, 10, rA EN.cells (V1.map EN.of)⟩), (8, ⟨false, 30, 2, [[.c (.v (.slice none 0 0)), .c (.v (.int .i64 0))]]⟩)]) 800 (fun q => V1.length - q.1) ⟨0, Nat.zero_le _⟩ ?_ ?_
   · refine q1l (And.intro @q0a (And.intro @q0g (And.intro @q0b @wtE_zero))) ?_
     exact Nat.le_refl _
   rintro ⟨i, hi⟩
   simp only []
   refine q0d (@q0a) ?_
   refine VC.cond (by rfl) (by trivial) (fun hc => ?_) (fun hc => ?_)
   · have hlt : i < V1.length := by simp at hc; omega
     have hw1 : IntKind.i64.wrap ((i : Int) + 1) = (i : Int) + 1 := q0w (by omega) (by omega)
     have hnx := wtE_next V3 wt i
     have hF := q2j (V1.map EN.of) V1.length (by simp) (wtE V3 wt i) 3 (wtE V3 wt i == 0 && decide (1000 < wt i))
     rw [← hnx] at hF
     unfold xW xN at hF
     have hz : wtE V3 wt i = 0 → V3 = 0 := fun h => by
      apply Classical.byContradiction
      intro hv
      unfold wtE at h
      rw [q1i _ _ _ hv] at h
      exact hv h
     have hW := fun h => hwt i hlt (hz h)
     obtain ⟨e', he'⟩ : ∃ e', wtE V3 wt (i + 1) = e' := ⟨_, rfl⟩
     rw [he'] at hnx hF
     generalize wtE V3 wt i = ei at *
     by_cases h0 : ei = 0
     · replace hW := hW h0
       subst h0
       obtain ⟨bw, hbw⟩ : ∃ bw, decide (1000 < wt i) = bw := ⟨_, rfl⟩
       rw [show ((0 : Int) == 0) = true from rfl, Bool.true_and, hbw] at hF
       have hq : decide (wt i > 1000) = bw := hbw
       clear hbw hnx
       refine q0d (hq) ?_
       (refine AO.step fun K hK => ?_; simp only [go_sem, Int.reduceBEq, Int.reduceLE, Int.reduceLT, Int.reduceNeg, Nat.reduceAdd, Nat.reduceEqDiff, Nat.reduceLT, Nat.reduceLeDiff, Nat.reduceMul, Nat.reduceSub, reduceCtorEq, ↓reduceIte]; (first | refine q1m ?_ | skip))
       refine .inr (.inl ⟨_, [.agg [.c (.sl 10 (V1.map NT.cells)), .c (.v (.int .i64 0))], .c (.v (.int .i64 (i : Int)))], [72], ⟨by rfl, by rfl, fun k x z h5 h6 => ?_, by rfl, hW⟩, hK _ _ _ ?_⟩)
       · match k with
         | 0 =>
           obtain rfl := Option.some.inj h5
           obtain rfl := Option.some.inj h6
           refine View.agg rfl fun k x z h7 h8 => ?_
           match k with
           | 0 =>
             obtain rfl := Option.some.inj h7
             obtain rfl := Option.some.inj h8
             exact View.row (B := ⟨true, 40, 10, rA EN.cells (V1.map EN.of)⟩) (es := V1.map NT.cells) (by simp [q0b]) rfl (by rw [Blkd.len, q0a, List.length_map]) (by rw [q4p, j7e])
           | 1 =>
             obtain rfl := Option.some.inj h7
             obtain rfl := Option.some.inj h8
             exact .same _
           | k + 2 => simp at h7
         | 1 =>
           obtain rfl := Option.some.inj h5
           obtain rfl := Option.some.inj h6
           exact .same _
         | k + 2 => simp at h5
       clear hK K
       refine q0d (And.intro hq (And.intro @q0a @q0b)) ?_
       refine q0i (And.intro @q0a (And.intro @q0b hq)) [56, 72] (hF) ?_
       refine q0d (And.intro @q0a (And.intro @q0b hw1)) ?_
       refine .next ⟨i + 1, by omega⟩ ?_ (by simp only []; omega)
       refine q1l (And.intro @q0a (And.intro @q0g @q0b)) ?_
       exact ⟨cI (by omega), by rw [he'], Nat.le_refl _⟩
     · have hq : (ei == 0) = false := by simpa using h0
       rw [hq, Bool.false_and] at hF
       refine q0d (hq) ?_
       refine q0i (And.intro @q0a @q0b) [56, 72] (hF) ?_
       refine q0d (And.intro @q0a (And.intro @q0b hw1)) ?_
       refine .next ⟨i + 1, by omega⟩ ?_ (by simp only []; omega)
       refine q1l (And.intro @q0a (And.intro @q0g @q0b)) ?_
       exact ⟨cI (by omega), by rw [he'], Nat.le_refl _⟩
   · have he : i = V1.length := by simp at hc; omega
     subst he
     generalize wtE V3 wt V1.length = ei at *
     by_cases h0 : ei = 0
     · have hq : (ei != 0) = false := by simpa using h0
       rw [if_neg (by simp [h0])]
       refine q0f (And.intro hq @q0a) ?_
       refine retX Tryz.results13 ?_
       refine ⟨?_, .c _⟩
       rw [ST.av_eq]
       refine .aggL (.cons ?_ (.cons (.c _) .nil))
       rw [show (ST.mk V1 0).nodes.map NT.cells = (V1.map EN.of).map EN.cells from (j7e V1).symm]
       exact q43 (f := EN.cells) (T := 40) rfl (by rw [List.length_map]) rfl fun x _ => rfl
     · have hq : (ei != 0) = true := by simpa using h0
       rw [if_pos h0]
       refine q0f (And.intro hq @q0a) ?_
       refine retX Tryz.results13 ?_
       exact ⟨.aggL (.cons (.nil 10) (.cons (.c _) .nil)), .c _⟩

theorem z2t (fN : List HN → BV) (hs : List HN) : q2e fN hs 0 = fN hs := by
 unfold q2e
 rw [if_neg (by simp)]
theorem z2s (fN : List HN → BV) (hs : List HN) {e : Int} (he : e ≠ 0) : q2e fN hs e = ([], 0, e) := by
 unfold q2e
 rw [if_pos he]
theorem z1u {fN : JT → List HN → BV} {hs : List HN} {e : Int} (he : e ≠ 0) : ∀ (l : List JT) (fs : List FT) (new : List NT), (q3o fN hs l fs new e).2.2.1 = e
 | [], _, _ => rfl
 | x :: xs, _, _ => by rw [q3o, if_pos he]
theorem z1s {fN : JT → List HN → BV} {hs : List HN} : ∀ (l : List JT) (fs : List FT) (new : List NT) (e : Int), (q3o fN hs l fs new e).2.2.1 = 0 → (q3o fN hs l fs new e).2.2.2 = true
 | [], _, _, _, _ => rfl
 | x :: xs, fs, new, e, h => by
   rw [q3o] at h ⊢
   by_cases he : e ≠ 0
   · rw [if_pos he] at h
     exact absurd h he
   · rw [if_neg he] at h ⊢
     exact z1s xs _ _ _ h
theorem j94 {f : q18} {fN : JT → List HN → BV} {a : List UInt8} {hs : List HN} (hf : ∀ x hs, BRel (fN x hs) (f hs x a)) : ∀ (l : List JT) (fs : List FT) (new : List NT),
  q3d f hs a l fs new = mk (q3o fN hs l fs new 0).2.2.1 ((q3o fN hs l fs new 0).1, (q3o fN hs l fs new 0).2.1)
 | [], fs, new => rfl
 | x :: xs, fs, new => by
   rw [q3d, q3o, if_neg (by simp), j6f]
   by_cases h1 : q29 0 x fs = 0
   rotate_left
   · rw [q16 h1, z2s _ _ h1]
     simp only []
     exact (mk_err (z1u h1 _ _ _) h1 _).symm
   rw [h1, q2p, z2t]
   simp only []
   have h := hf (gt x q0k) (hs ++ new.map q0p)
   unfold BRel at h
   rw [show (jget x q0k).getD q39 = gt x q0k from rfl, h]
   generalize fN (gt x q0k) (hs ++ new.map q0p) = V
   obtain ⟨m, k, e⟩ := V
   simp only []
   by_cases he : e = 0
   · subst he
     rw [q2p]
     simp only []
     exact j94 hf xs _ _
   · rw [q16 he]
     exact (mk_err (z1u he _ _ _) he _).symm
theorem unionG_no {fN : JT → List HN → BV} {hs : List HN} {e : Int} (he : e ≠ 0) : ∀ (l : List JT) (ks : List Int) (new : List NT), (q24 fN hs l ks new e).2.2.1 = e
 | [], _, _ => rfl
 | x :: xs, _, _ => by
   rw [q24, z2s _ _ he, if_pos he]
theorem z29 {fN : JT → List HN → BV} {hs : List HN} : ∀ (l : List JT) (ks : List Int) (new : List NT) (e : Int), (q24 fN hs l ks new e).2.2.1 = 0 → (q24 fN hs l ks new e).2.2.2 = true
 | [], _, _, _, _ => rfl
 | x :: xs, ks, new, e, h => by
   rw [q24] at h ⊢
   by_cases he : (q2e (fN x) (hs ++ new.map q0p) e).2.2 ≠ 0
   · rw [if_pos he] at h
     exact absurd h he
   · rw [if_neg he] at h ⊢
     exact z29 xs _ _ _ h
theorem j9f {f : q18} {fN : JT → List HN → BV} {a : List UInt8} {hs : List HN} (hf : ∀ x hs, BRel (fN x hs) (f hs x a)) : ∀ (l : List JT) (ks : List Int) (new : List NT),
  q3f f hs a l ks new = mk (q24 fN hs l ks new 0).2.2.1 ((q24 fN hs l ks new 0).1, (q24 fN hs l ks new 0).2.1)
 | [], ks, new => rfl
 | x :: xs, ks, new => by
   rw [q3f, q24, z2t]
   have h := hf x (hs ++ new.map q0p)
   unfold BRel at h
   rw [h]
   generalize fN x (hs ++ new.map q0p) = V
   obtain ⟨m, k, e⟩ := V
   simp only []
   by_cases he : e = 0
   · subst he
     rw [q2p, if_neg (by simp)]
     simp only []
     by_cases hb : q4f (hs ++ (new ++ m).map q0p) ks k = true
     · rw [if_pos hb, if_pos hb]
       exact j9f hf xs _ _
     · rw [if_neg hb, if_neg hb]
       exact (mk_err (unionG_no (by decide) _ _ _) (by decide) _).symm
   · rw [q16 he, if_pos he]
     exact (q16 he _).symm
theorem union_rel {f : q18} {fN : JT → List HN → BV} {a : List UInt8} (hs : List HN) (l : List JT) (hf : ∀ x hs, BRel (fN x hs) (f hs x a)) : BRel (q46 fN hs l) (q6d f hs l a) := by
 unfold BRel q6d q46
 by_cases h1 : l.length < 1 ∨ 10 < l.length
 · rw [if_pos h1, if_pos h1]
   rfl
 rw [if_neg h1, if_neg h1]
 by_cases h2 : 200 ≤ hs.length
 · rw [if_pos h2, if_pos h2]
   rfl
 rw [if_neg h2, if_neg h2, j9f hf]
 have hend := z29 (fN := fN) (hs := hs ++ [(13, [])]) l [] [] 0
 generalize q24 fN (hs ++ [(13, [])]) l [] [] 0 = G at *
 obtain ⟨ks, new, e, b⟩ := G
 simp only [] at hend ⊢
 by_cases he : e = 0
 · subst he
   rw [q2p, q2p, hend rfl]
   rfl
 · rw [q16 he, q16 he]
theorem z54 {fN : JT → List HN → BV} {hs : List HN} {e : Int} (he : e ≠ 0) (j : JT) (n : NT) : q59 fN hs e j n = ([], 0, e) := by
 have h : q45 hs e j = e := by
  unfold q45
  rw [q1i _ _ _ he, q1i _ _ _ he, q1i _ _ _ he]
 unfold q59
 rw [h, if_pos he]
theorem fixedV_no {hs : List HN} {e : Int} (he : e ≠ 0) (j : JT) (n : NT) : q6j hs e j n = ([], 0, e) := by
 unfold q6j j2e
 rw [q1i _ _ _ he, q1i _ _ _ he, q8p he]
theorem z56 {f : q18} {fN : JT → List HN → BV} (hs : List HN) (j : JT) (n : NT) (hf : ∀ x hs, BRel (fN x hs) (f hs x (q1n n.name))) : BRel (q59 fN hs 0 j n) (q6r f hs j n) := by
 unfold BRel q6r q59 q45
 rw [show (jget j q0q).getD q39 = gt j q0q from rfl]
 by_cases hk : (gt j q0q).kd ≠ 5
 · rw [if_pos hk, show ((gt j q0q).kd != 5) = true by simpa using hk]
   simp only [fl_t, f30]
   rfl
 rw [if_neg hk, show ((gt j q0q).kd != 5) = false by simpa using hk, fl_f]
 by_cases hl : 40 < (gt j q0q).its.length
 · rw [if_pos hl, show decide (40 < (gt j q0q).its.length) = true from decide_eq_true hl]
   simp only [fl_t, f3]
   rfl
 rw [if_neg hl, show decide (40 < (gt j q0q).its.length) = false from decide_eq_false hl, fl_f]
 by_cases h2 : 200 ≤ hs.length
 · rw [if_pos h2, show decide (200 ≤ hs.length) = true from decide_eq_true h2]
   simp only [fl_t]
   rfl
 rw [if_neg h2, show decide (200 ≤ hs.length) = false from decide_eq_false h2, fl_f, if_neg (by simp), j94 hf]
 have hend := z1s (fN := fN) (hs := hs ++ [q0p n]) (gt j q0q).its [] [] 0
 generalize q3o fN (hs ++ [q0p n]) (gt j q0q).its [] [] 0 = G at *
 obtain ⟨fs, new, e, b⟩ := G
 simp only [] at hend ⊢
 by_cases he : e = 0
 · subst he
   rw [q2p, q2p, hend rfl]
   rfl
 · rw [q16 he, q16 he]
theorem z07 {f : q18} {fV : j1x} (hf : ∀ x a hs, BRel (fV x a hs) (f hs x a)) (hs : List HN) (j : JT) (k : Int) (key a : List UInt8) : BRel (q7u fV hs j k key a) (q5o f hs j k key a) := by
 unfold BRel q5o q7u
 cases hx : jget j key with
 | none => rfl
 | some x =>
   simp only []
   unfold q7t
   by_cases h2 : 200 ≤ hs.length
   · rw [if_pos h2, if_pos h2]
     rfl
   rw [if_neg h2, if_neg h2]
   have h := hf x a (hs ++ [(k, [])])
   unfold BRel at h
   rw [h]
   generalize fV x a (hs ++ [(k, [])]) = V
   obtain ⟨m, i, e⟩ := V
   simp only []
   by_cases he : e = 0
   · subst he
     rfl
   · rw [q16 he, q16 he]
theorem z5n {f : q18} {fV : j1x} (hf : ∀ x a hs, BRel (fV x a hs) (f hs x a)) (hs : List HN) (j : JT) (a : List UInt8) : BRel (j3j fV hs j a) (q5p f hs j a) := by
 have hr := fun e (he : e ≠ 0) => z54 (fN := fun t => fV t (q1n (q3u j 9 a).name)) (hs := hs) (e := e) he j (q3u j 9 a)
 have hb : ∀ (e : Int) (he : e ≠ 0) (V : BV), V = ([], 0, e) → BRel V (.error e) := fun e he V h => by
  subst h
  exact (q16 he _).symm
 unfold q5p j3j
 rw [q74]
 by_cases hk : (gt j q0k).kd ≠ 4
 · rw [if_pos hk, show ((gt j q0k).kd != 4) = true by simpa using hk]
   rfl
 rw [if_neg hk, show ((gt j q0k).kd != 4) = false by simpa using hk, fl_f, q2p]
 simp only []
 by_cases h11 : q0h (gt j q0k).txt = 11
 · rw [if_pos h11, if_pos h11]
   exact z07 hf hs j 11 q61 a
 rw [if_neg h11, if_neg h11]
 by_cases h12 : q0h (gt j q0k).txt = 12
 · rw [if_pos h12, if_pos h12]
   exact z07 hf hs j 12 q62 a
 rw [if_neg h12, if_neg h12, z0k]
 by_cases h9 : q0h (gt j q0k).txt = 9
 · rw [if_pos h9, h9, if_pos (show q1w ((9 : Nat) : Int) = true from rfl)]
   by_cases hE : q27 hs j a = 0
   · rw [hE, q2p]
     simp only []
     rw [if_pos trivial]
     exact z56 hs j _ fun x hs => hf x _ hs
   · rw [q16 hE]
     exact hb _ hE _ (hr _ hE)
 rw [if_neg h9]
 by_cases h10 : q0h (gt j q0k).txt = 10
 · rw [if_pos h10, h10, if_pos (show q1w ((10 : Nat) : Int) = true from rfl)]
   by_cases hE : q27 hs j a = 0
   · rw [hE, q2p]
     simp only []
     rw [if_neg (by decide), if_pos trivial]
     exact enum_rel hs j _ rfl
   · rw [q16 hE]
     exact hb _ hE _ (enumV_no hE _ _)
 rw [if_neg h10]
 by_cases h14 : q0h (gt j q0k).txt = 14
 · rw [if_pos h14, h14, if_pos (show q1w ((14 : Nat) : Int) = true from rfl)]
   by_cases hE : q27 hs j a = 0
   · rw [hE, q2p]
     simp only []
     rw [if_neg (by decide), if_neg (by decide)]
     exact fixed_rel hs j _
   · rw [q16 hE]
     exact hb _ hE _ (fixedV_no hE _ _)
 rw [if_neg h14, if_neg (show ¬ q1w (q0h (gt j q0k).txt : Int) = true by simp [q1w]; omega)]
 exact z3u hs _ a
theorem j42 : ∀ (d : Nat) (j : JT) (a : List UInt8) (hs : List HN), BRel (q31 d j a hs) (q3e d hs j a)
 | 0, j, a, hs => rfl
 | d + 1, j, a, hs => by
   unfold q31 q3e
   try simp only []
   by_cases h4 : j.kd = 4
   · rw [if_pos h4, if_pos h4]
     exact z3u hs _ a
   rw [if_neg h4, if_neg h4]
   by_cases h5 : j.kd = 5
   · rw [if_pos h5, if_pos h5]
     exact union_rel hs _ fun x hs => j42 d x a hs
   rw [if_neg h5, if_neg h5]
   by_cases h6 : j.kd = 6
   · rw [if_pos h6, if_pos h6]
     exact z5n (fun x a hs => j42 d x a hs) hs j a
   rw [if_neg h6, if_neg h6]
   rfl
theorem bld_eq (j : JT) : bldM (jR j) (q31 33 j [] []) (wOf (q31 33 j [] []).1) = q36 j := by
 unfold bldM q36 q49
 cases hr : jR j with
 | false => rfl
 | true =>
   rw [if_neg (by simp), if_pos rfl]
   have h := j42 33 j [] []
   unfold BRel at h
   rw [h]
   generalize q31 33 j [] [] = V
   obtain ⟨ns, k, e⟩ := V
   simp only []
   by_cases he : e = 0
   · subst he
     rw [q2p]
     simp only []
     have hw : wtE 0 (wOf ns) ns.length = fl 0 (q65 ⟨ns, 0⟩) 3 := rfl
     rw [hw]
     cases q65 ⟨ns, 0⟩ <;> rfl
   · rw [q16 he]
     simp only []
     have hw : wtE e (wOf ns) ns.length = e := q1i _ _ _ he
     rw [hw, if_pos he]

theorem q1o.co2 {f : FuncId} {es : List EN} {e : Int} {j : JT} {x y : AV} {V : BV} (h : q1o f es e [j.av, y] V) (hc : Co x y) : q1o f es e [j.av, x] V := by
 unfold q1o at *
 exact ToldM.co h (.cons (.same _) (.cons (.same _) (.cons hc .nil)))
theorem z05 (es : List EN) (hl : es.length ≤ 200) (j : JT) (k : Int) (key a : List UInt8) (f : j1x) (hK : ∀ x, jget j key = some x → KidOk a x (f x a)) :
  q1o 122 es 0 [j.av, intV k, strV key, strV a] (q7u f (hsE es) j k key a) := by
 unfold q7u
 cases hx : jget j key with
 | none => 
   have h := bmany_no es hl 0 j k key a hx
   rw [show fl 0 true 30 = 30 from rfl] at h
   unfold q1o intV strV
   simpa using h
 | some x =>
   simp only []
   have hsl : (hsE es).length = es.length := by rw [hsE, List.length_map]
   by_cases hlt : es.length < 200
   · have hN := (hK x hx).told (es ++ [EN.of (q1g k)]) (by simp; omega)
     have hh : hsE (es ++ [EN.of (q1g k)]) = hsE es ++ [(k, [])] := by
      unfold hsE
      rw [List.map_append]
      rfl
     rw [hh] at hN
     exact z4j es hlt j k key a x hx _ hN
   · have hle : es.length = 200 := by omega
     have h := bmany_big es hle j k key a x hx
     unfold q7t
     rw [if_pos (by omega)]
     unfold q1o intV strV
     rw [hle] at h ⊢
     simpa [hle] using h

theorem q17 {N : Nat} {j : JT} (h : j.sm N) : j.txt.length ≤ N ∧ j.its.length ≤ N ∧ ∀ x ∈ j.its, x.sm N := by
 cases j with
 | mk k n s ks xs =>
   unfold JT.sm at h
   exact ⟨h.1, h.2.2.2.1, fun x hx => j5l h.2.2.2.2 x hx⟩
theorem zJ_sm (N : Nat) : zJ.sm N := by
 unfold zJ JT.sm
 simp [JT.smL]
theorem q2o {N : Nat} {j : JT} (h : j.sm N) (key : List UInt8) : (gt j key).sm N := by
 unfold gt
 cases hx : jget j key with
 | none => exact zJ_sm N
 | some x => exact (q17 h).2.2 x (q7o hx).2
theorem joinM_len (sp name : List UInt8) : ((q1e sp name).getD []).length ≤ sp.length + 1 + name.length := by
 unfold q1e
 repeat' split
 all_goals simp
 all_goals omega
theorem j70 (s : List UInt8) : (q1n s).length ≤ s.length := by
 unfold q1n
 rw [List.length_take]
 omega
theorem z0h {N : Nat} {j : JT} (h : j.sm N) (a : List UInt8) : ((q1b j a).getD []).length ≤ (a.length + N) + 1 + N := by
 unfold q1b
 have h1 := (q17 (q2o h q0x)).1
 have h2 := (q17 (q2o h q1d)).1
 refine Nat.le_trans (joinM_len _ _) ?_
 split <;> omega

theorem j6s {s : List UInt8} (h : q4u s = true) : s.length ≤ 100 := by
 unfold q4u at h
 rw [Bool.and_eq_true, decide_eq_true_eq] at h
 exact h.1
theorem j7y {s : List UInt8} (h : q1h s = true) : s.length ≤ 100 := by
 unfold q1h at h
 rw [Bool.and_eq_true, decide_eq_true_eq] at h
 exact h.1
theorem j6y {sp name f : List UInt8} (h : q1e sp name = some f) : f.length ≤ 100 := by
 unfold q1e at h
 split at h
 · split at h
   · obtain rfl := Option.some.inj h
     exact j6s (by assumption)
   · simp at h
 split at h
 · simp at h
 split at h
 · split at h
   · obtain rfl := Option.some.inj h
     exact j6s (by assumption)
   · simp at h
 split at h
 · obtain rfl := Option.some.inj h
   exact j6s (by assumption)
 · simp at h
theorem z01 {x : JT} {l : List (List UInt8)} (h : q7s x = .ok l) : l.length ≤ 40 := by
 unfold q7s at h
 split at h
 · simp at h
 split at h
 · split at h
   · simp at h
   · injection h with h
     subst h
     omega
 · simp at h
theorem mapB_ok {full : List UInt8 → Option (List UInt8)} (hf : ∀ s t, full s = some t → t.length ≤ 100) : ∀ {l r : List (List UInt8)}, mapB full l = .ok r → r.length = l.length ∧ ∀ t ∈ r, t.length ≤ 100
 | [], r, h => by
   rw [mapB] at h
   injection h with h
   subst h
   simp
 | s :: l, r, h => by
   rw [mapB] at h
   split at h
   · simp at h
   · rename_i t ht
     split at h
     · rename_i r2 hr
       injection h with h
       subst h
       obtain ⟨h1, h2⟩ := mapB_ok hf hr
       refine ⟨by simp [h1], fun u hu => ?_⟩
       rcases List.mem_cons.1 hu with rfl | hu
       · exact hf _ _ ht
       · exact h2 u hu
     · simp at h
theorem j81 {full : List UInt8 → Option (List UInt8)} (hf : ∀ s t, full s = some t → t.length ≤ 100) {j : JT} {r : List (List UInt8)} (h : q7k full j = .ok r) : r.length ≤ 40 ∧ ∀ t ∈ r, t.length ≤ 100 := by
 unfold q7k at h
 split at h
 · injection h with h
   subst h
   simp
 · split at h
   · rename_i l hl
     obtain ⟨h1, h2⟩ := mapB_ok hf h
     exact ⟨by rw [h1]; exact z01 hl, h2⟩
   · simp at h
theorem z2w : ∀ {l done : List (List UInt8)}, q3p done l = .ok () → ∀ s ∈ l, s.length ≤ 100
 | [], _, _ => by simp
 | s :: l, done, h => by
   rw [q3p] at h
   split at h
   · simp at h
   · rename_i hs
     split at h
     · simp at h
     · intro t ht
       rcases List.mem_cons.1 ht with rfl | ht
       · exact j7y (by simpa using hs)
       · exact z2w h t ht
def SmB (f : q18) : Prop := ∀ hs j a new k, j.sm 1000000 → f hs j a = .ok (new, k) → ∀ n ∈ new, n.sm 1000000
theorem plain_smN (k : Int) : (q1g k).sm 1000000 := by
 simp [q1g, NT.sm]
theorem j4p {hs : List HN} {n : NT} (hn : n.sm 1000000) {new : List NT} {k : Int} (h : q3k hs n = .ok (new, k)) : ∀ n ∈ new, n.sm 1000000 := by
 unfold q3k at h
 split at h
 · simp at h
 · injection h with h
   injection h with h1 h2
   subst h1
   intro m hm
   obtain rfl := List.mem_singleton.1 hm
   exact hn
theorem word_sm {hs : List HN} {w a : List UInt8} {new : List NT} {k : Int} (h : q5h hs w a = .ok (new, k)) : ∀ n ∈ new, n.sm 1000000 := by
 unfold q5h at h
 split at h
 · exact j4p (plain_smN _) h
 · split at h
   · simp at h
   · split at h
     · simp at h
     · injection h with h
       injection h with h1 h2
       subst h1
       simp
theorem z3d {f : q18} (hf : SmB f) {hs : List HN} {a : List UInt8} : ∀ {xs : List JT} {ks : List Int} {new : List NT} {ks' : List Int} {new' : List NT}, (∀ x ∈ xs, x.sm 1000000) → (∀ n ∈ new, n.sm 1000000) → q3f f hs a xs ks new = .ok (ks', new') → ks'.length = ks.length + xs.length ∧ ∀ n ∈ new', n.sm 1000000
 | [], ks, new, ks', new', _, hn, h => by
   rw [q3f] at h
   injection h with h
   injection h with h1 h2
   subst h1 h2
   exact ⟨rfl, hn⟩
 | x :: xs, ks, new, ks', new', hx, hn, h => by
   rw [q3f] at h
   split at h
   · simp at h
   · rename_i m k hk
     split at h
     · obtain ⟨h1, h2⟩ := z3d hf (fun y hy => hx y (by simp [hy])) (fun n hm => by
        rcases List.mem_append.1 hm with hm | hm
        · exact hn n hm
        · exact hf _ _ _ _ _ (hx x (by simp)) hk n hm) h
       exact ⟨by rw [h1]; simp; omega, h2⟩
     · simp at h
theorem fieldB_ok {x : JT} (hx : x.sm 1000000) {fs : List FT} {g : FT} (h : q8n x fs = .ok g) (k : Int) : FT.sm 1000000 { g with type := k } := by
 unfold q8n at h
 split at h
 · simp at h
 split at h
 · simp at h
 split at h
 · simp at h
 rename_i hs
 split at h
 · simp at h
 split at h
 · simp at h
 rename_i l hl
 split at h
 · simp at h
 · injection h with h
   subst h
   have h1 := j7y (by simpa using hs)
   obtain ⟨h2, h3⟩ := j81 (fun s t h => by
    unfold selfM at h
    split at h
    · obtain rfl := Option.some.inj h
      exact j7y (by assumption)
    · simp at h) hl
   exact ⟨by simp only []; omega, by simp only []; omega, fun y hy => by have := h3 y hy; omega, q2o hx q1q⟩
theorem jget_sm {N : Nat} {j x : JT} (h : j.sm N) {key : List UInt8} (hx : jget j key = some x) : x.sm N := (q17 h).2.2 x (q7o hx).2
theorem j93 {f : q18} (hf : SmB f) {hs : List HN} {a : List UInt8} : ∀ {xs : List JT} {fs : List FT} {new : List NT} {fs' : List FT} {new' : List NT}, (∀ x ∈ xs, x.sm 1000000) → (∀ g ∈ fs, g.sm 1000000) → (∀ n ∈ new, n.sm 1000000) → q3d f hs a xs fs new = .ok (fs', new') →
  fs'.length = fs.length + xs.length ∧ (∀ g ∈ fs', g.sm 1000000) ∧ ∀ n ∈ new', n.sm 1000000
 | [], fs, new, fs', new', _, hg, hn, h => by
   rw [q3d] at h
   injection h with h
   injection h with h1 h2
   subst h1 h2
   exact ⟨rfl, hg, hn⟩
 | x :: xs, fs, new, fs', new', hx, hg, hn, h => by
   rw [q3d] at h
   split at h
   · simp at h
   · rename_i g hgx
     split at h
     · simp at h
     · rename_i m k hk
       have hxs := hx x (by simp)
       obtain ⟨h1, h2, h3⟩ := j93 hf (fun y hy => hx y (by simp [hy])) (fun o ho => by
        rcases List.mem_append.1 ho with ho | ho
        · exact hg o ho
        · obtain rfl := List.mem_singleton.1 ho
          exact fieldB_ok hxs hgx k) (fun n hm => by
        rcases List.mem_append.1 hm with hm | hm
        · exact hn n hm
        · exact hf _ _ _ _ _ (q2o hxs q0k) hk n hm) h
       exact ⟨by rw [h1]; simp; omega, h2, h3⟩
theorem union_sm {f : q18} (hf : SmB f) {hs : List HN} {l : List JT} (hl : ∀ x ∈ l, x.sm 1000000) {a : List UInt8} {new : List NT} {k : Int} (h : q6d f hs l a = .ok (new, k)) : ∀ n ∈ new, n.sm 1000000 := by
 unfold q6d at h
 split at h
 · simp at h
 split at h
 · simp at h
 split at h
 · simp at h
 · rename_i hq _ ks m hu
   injection h with h
   injection h with h1 h2
   subst h1
   obtain ⟨e1, e2⟩ := z3d hf hl (by simp) hu
   intro n hn
   rcases List.mem_cons.1 hn with rfl | hn
   · simp at e1
     simp [q1g, NT.sm]
     omega
   · exact e2 n hn
theorem many_sm {f : q18} (hf : SmB f) {hs : List HN} {j : JT} (hj : j.sm 1000000) {kd : Int} {key a : List UInt8} {new : List NT} {k : Int} (h : q5o f hs j kd key a = .ok (new, k)) : ∀ n ∈ new, n.sm 1000000 := by
 unfold q5o at h
 split at h
 · simp at h
 rename_i x hx
 split at h
 · simp at h
 split at h
 · simp at h
 · rename_i m i hu
   injection h with h
   injection h with h1 h2
   subst h1
   intro n hn
   rcases List.mem_cons.1 hn with rfl | hn
   · simp [q1g, NT.sm]
   · exact hf _ _ _ _ _ (jget_sm hj hx) hu n hn
theorem head_sm {hs : List HN} {j : JT} {k : Int} {a : List UInt8} {n : NT} (h : q64 hs j k a = .ok n) : ∃ f l, n = ⟨k, f, l, [], [], false, [], 0, 0, []⟩ ∧ f.length ≤ 100 ∧ l.length ≤ 40 ∧ ∀ y ∈ l, y.length ≤ 100 := by
 unfold q64 at h
 split at h
 · simp at h
 split at h
 · simp at h
 split at h
 · simp at h
 rename_i f hf
 split at h
 · simp at h
 split at h
 · simp at h
 split at h
 · simp at h
 · rename_i l hl
   injection h with h
   obtain ⟨h1, h2⟩ := j81 (fun s t h => j6y h) hl
   exact ⟨_, _, h.symm, j6y hf, h1, h2⟩
theorem record_sm {f : q18} (hf : SmB f) {hs : List HN} {j : JT} (hj : j.sm 1000000) {n : NT} (hn : n.sm 1000000) {new : List NT} {k : Int} (h : q6r f hs j n = .ok (new, k)) : ∀ n ∈ new, n.sm 1000000 := by
 unfold q6r at h
 split at h
 · simp at h
 split at h
 · simp at h
 split at h
 · simp at h
 split at h
 · simp at h
 · rename_i h40 _ _ fs m hu
   injection h with h
   injection h with h1 h2
   subst h1
   obtain ⟨e1, e2, e3⟩ := j93 hf (fun x hx => (q17 (q2o hj q0q)).2.2 x hx) (by simp) (by simp) hu
   intro o ho
   rcases List.mem_cons.1 ho with rfl | ho
   · obtain ⟨c1, c2, c3, c4, c5, c6⟩ := hn
     have e1' : fs.length = 0 + ((jget j q0q).getD q39).its.length := e1
     exact ⟨c1, c2, c3, c4, c5, by simp only []; omega, e2⟩
   · exact e3 o ho
theorem enum_sm {hs : List HN} {j : JT} {n : NT} (hn : n.sm 1000000) {new : List NT} {k : Int} (h : q63 hs j n = .ok (new, k)) : ∀ n ∈ new, n.sm 1000000 := by
 obtain ⟨c1, c2, c3, c4, c5, c6⟩ := hn
 unfold q63 at h
 split at h
 · simp at h
 rename_i l hl
 split at h
 · simp at h
 split at h
 · simp at h
 rename_i hsy
 have hlen := z01 hl
 have hs := z2w hsy
 have h4 : l.length ≤ 1000000 ∧ ∀ y ∈ l, y.length ≤ 1000000 := ⟨by omega, fun y hy => by have := hs y hy; omega⟩
 split at h
 · refine j4p ?_ h
   exact ⟨c1, c2, c3, h4, c5, c6⟩
 split at h
 · simp at h
 split at h
 · rename_i hd
   refine j4p ?_ h
   exact ⟨c1, h4.2 _ hd, c3, h4, c5, c6⟩
 · simp at h
theorem object_sm {f : q18} (hf : SmB f) {hs : List HN} {j : JT} (hj : j.sm 1000000) {a : List UInt8} {new : List NT} {k : Int} (h : q5p f hs j a = .ok (new, k)) : ∀ n ∈ new, n.sm 1000000 := by
 unfold q5p at h
 split at h
 · simp at h
 split at h
 · exact many_sm hf hj h
 split at h
 · exact many_sm hf hj h
 split at h
 · split at h
   · simp at h
   · rename_i n hn
     obtain ⟨nm, l, rfl, h1, h2, h3⟩ := head_sm hn
     have hs : ∀ k : Int, NT.sm 1000000 ⟨k, nm, l, [], [], false, [], 0, 0, []⟩ := fun k => ⟨by simp only []; omega, by simp, ⟨by simp only []; omega, fun y hy => by have := h3 y hy; omega⟩, by simp, by simp, by simp⟩
     split at h
     · exact record_sm hf hj (hs _) h
     split at h
     · exact enum_sm (hs _) h
     · unfold q7n at h
       split at h
       · simp at h
       split at h
       · simp at h
       · refine j4p ?_ h
         obtain ⟨c1, c2, c3, c4, c5, c6⟩ := hs 0
         exact ⟨c1, c2, c3, c4, c5, c6⟩
 · exact word_sm h
theorem j7c : ∀ d, SmB (q3e d)
 | 0 => fun hs j a new k _ h => by rw [q3e] at h; simp at h
 | d + 1 => fun hs j a new k hj h => by
   rw [q3e] at h
   simp only [] at h
   split at h
   · exact word_sm h
   split at h
   · exact union_sm (j7c d) (q17 hj).2.2 h
   split at h
   · exact object_sm (j7c d) hj h
   · simp at h
theorem j9h {j : JT} (hj : j.sm 1000000) {s : ST} (h : q49 j = .ok s) : s.sm 1000000 := by
 have hO := j51 h
 unfold q5s at hO
 rw [Bool.and_eq_true, Bool.and_eq_true, decide_eq_true_eq, decide_eq_true_eq] at hO
 unfold q49 at h
 split at h
 · split at h
   · simp at h
   · rename_i ns k hn
     injection h with h
     subst h
     refine ⟨?_, fun n hn2 => j7c 33 [] j [] ns k hj hn n hn2⟩
     have := hO.2.1
     simp only [] at this ⊢
     omega
 · simp at h

theorem gt_of {j x : JT} {key : List UInt8} (h : jget j key = some x) : gt j key = x := by unfold gt; rw [h]; rfl
theorem knode (M : Nat) (hM : M = 3000000) : ∀ (d : Nat) (j : JT) (a : List UInt8), q1y j < d → j.sm 1000000 → a.length + d * M ≤ 100000000 → KidOk a j (q31 d j a)
 | 0, j, a, h, _, _ => absurd h (Nat.not_lt_zero _)
 | d + 1, j, a, hd, hs, ha => by
   refine ⟨fun es hl => ?_, fun hs' hl => (j2z (d + 1) j a hs' hl).1, fun hs' hl => (j2z (d + 1) j a hs' hl).2⟩
   obtain ⟨p1, p2, p3⟩ := q17 hs
   rw [Nat.succ_mul] at ha
   have ha2 : a.length + d * M ≤ 100000000 := by omega
   unfold q31
   by_cases h4 : j.kd = 4
   · rw [if_pos h4]
     exact z4m es j h4 a _ (j9d es hl j.txt a (by omega) (by omega))
   rw [if_neg h4]
   by_cases h5 : j.kd = 5
   · rw [if_pos h5]
     exact z4l es j h5 a _ (z4u es hl j.its a _ fun x hx => knode M hM d x a (by have := j3e (.inl h5) hx; omega) (p3 x hx) ha2)
   rw [if_neg h5]
   by_cases h6 : j.kd = 6
   · rw [if_pos h6]
     refine bnode_obj es j h6 a _ ?_
     unfold j3j
     by_cases ht : (gt j q0k).kd = 4
     rotate_left
     · rw [if_pos ht]
       exact z4o es hl j a (by simpa using ht)
     rw [if_neg (by simpa using ht)]
     have hfull := z0h hs a
     have hH := fun k => z4e es hl j k a (by omega) (by have := (q17 (q2o hs q0x)).1; omega) (by have := (q17 (q2o hs q1d)).1; omega) (by have := (q17 (q2o hs q0z)).2.1; omega) (fun x hx => by have := (q17 ((q17 (q2o hs q0z)).2.2 x hx)).1; omega) (by omega)
     have hkid : ∀ key x, jget j key = some x → KidOk a x (q31 d x a) := fun key x hx => knode M hM d x a (by have := j2h hx; omega) (p3 x (q7o hx).2) ha2
     refine z4n es hl j a (by simpa using ht) _ (q27 (hsE es) j a) (fun k => j2i j k a) (hH _) (fun h => ?_) (fun h => ?_) (fun h => ?_) (fun h => ?_) (fun h => ?_) (fun q1 q2 q3 q4 q5 => ?_)
     · rw [if_pos h]
       exact z05 es hl j 11 q61 a (q31 d) fun x hx => hkid _ x hx
     · rw [if_neg (by omega), if_pos h]
       exact z05 es hl j 12 q62 a (q31 d) fun x hx => hkid _ x hx
     · rw [if_neg (by omega), if_neg (by omega), if_pos h]
       have hsp := j70 (q3u j 9 a).name
       have hnm : (q3u j 9 a).name = (q1b j a).getD [] := rfl
       have hfs := q17 (q2o hs q0q)
       refine z4q es hl (q27 (hsE es) j a) j (q3u j 9 a) (by rw [hnm]; omega) _ (fun h5' x hx t hxt => ?_) (fun x hx => ?_) (fun x hx => ?_) (fun x hx y hy => ?_)
       · have hxs := hfs.2.2 x hx
         have hd1 : q1y x + 1 ≤ q1y j := by
          cases hf : jget j q0q with
          | none =>
            have : gt j q0q = zJ := by unfold gt; rw [hf]; rfl
            rw [this] at hx
            simp [zJ, JT.its] at hx
          | some w =>
            rw [gt_of hf] at hx
            rw [gt_of hf] at h5'
            have h1 := j3e (.inl h5') hx
            have h2 := j2h hf
            omega
         exact knode M hM d t _ (by have := j2h hxt; omega) ((q17 hxs).2.2 t (q7o hxt).2) (by rw [hnm] at hsp ⊢; omega)
       · have := (q17 (q2o (hfs.2.2 x hx) q0x)).1; omega
       · have := (q17 (q2o (hfs.2.2 x hx) q0z)).2.1; omega
       · have := (q17 ((q17 (q2o (hfs.2.2 x hx) q0z)).2.2 y hy)).1; omega
     · rw [if_neg (by omega), if_neg (by omega), if_neg (by omega), if_pos h]
       have hfs := q17 (q2o hs q1j)
       exact q1o.co2 (z39 es hl _ j (q3u j 10 a) (by omega) fun x hx => by have := (q17 (hfs.2.2 x hx)).1; omega) (j4r j 10 a)
     · rw [if_neg (by omega), if_neg (by omega), if_neg (by omega), if_neg (by omega), if_pos h]
       exact q1o.co2 (z4b es hl _ j (q3u j 14 a)) (j4r j 14 a)
     · rw [if_neg (by omega), if_neg (by omega), if_neg (by omega), if_neg (by omega), if_neg (by omega)]
       exact j9d es hl _ a (by have := (q17 (q2o hs q0k)).1; omega) (by omega)
   · rw [if_neg h6]
     exact z4k es j h4 h5 h6 a

theorem j7j {s : ST} (h : q5s s = true) : ∀ n ∈ s.nodes, n.kind = 9 → ∀ f ∈ n.fields, 0 ≤ f.type ∧ f.type < (s.nodes.length : Int) := fun n hn h9 f hf =>
 z5r h n hn f.type (by rw [q28, if_pos h9]; exact List.mem_map.2 ⟨f, hf, rfl⟩)
theorem j7i {s : ST} (h : q5s s = true) : ∀ p, ∀ x ∈ q15 s.nodes p, x.type.toNat < s.nodes.length := fun p x hx => by
 unfold q15 at hx
 split at hx
 · rename_i n hn
   split at hx
   · rename_i h9
     have := j7j h n (List.mem_of_getElem? hn) h9 x hx
     omega
   · simp at hx
 · simp at hx

theorem z6x (s : ST) (hsm : s.sm 1000000) (ho : q5s s = true) (p : Nat) (hp : p < s.nodes.length) : Told Tryz.prog 37 [s.av, .c (.v (.int .i64 (p : Int)))] (.c (.v (.int .i64 (wOf s.nodes p)))) := by
 obtain ⟨hl, hs⟩ := hsm
 have hO := z5t s hl hs
 rw [ho] at hO
 have hW := z7t s hl hs (j7j ho) (s.nodes.length + 1) p (List.replicate s.nodes.length 0) hp (by simp) (fun x hx => by obtain rfl := (List.mem_replicate.1 hx).2; decide) (by have := List.count_le_length (a := (0 : Int)) (l := List.replicate s.nodes.length 0); simp at this ⊢)
 have hwl : (rA iPV (q2y s.nodes (s.nodes.length + 1) p (List.replicate s.nodes.length 0)).2).length = s.nodes.length := by
  rw [q0a]
  exact (j8f s.nodes (s.nodes.length + 1) p _ (by simp) (fun x hx => by obtain rfl := (List.mem_replicate.1 hx).2; decide)).1
 obtain ⟨V, hV⟩ : ∃ V, V = wOf s.nodes p := ⟨_, rfl⟩
 rw [← hV]
 unfold wOf at hV
 rw [← hV] at hW
 generalize (q2y s.nodes (s.nodes.length + 1) p (List.replicate s.nodes.length 0)).2 = D at hW hwl
 clear hV
 rw [rA_rep] at hW
 simp only [ST.av_eq, q2q, List.map_cons, List.map_nil] at hO hW
 have f0 : decide ((p : Int) < 0) = false := by simp
 have f1 : decide ((p : Int) ≥ (s.nodes.length : Int)) = false := by simp; omega
 rw [ST.av_eq, q2q]
 refine VC.toldP ent_37 Tryz.func37 rfl Tryz.ntmps37 fun hb => ?_
 clear hb
 refine q0d (And.intro f0 f1) ?_
 refine q0e (hO) ?_
 refine q0f (@lRepL) ?_
 ((refine AO.step fun K hK => ?_; simp only [go_sem, Int.reduceBEq, Int.reduceLE, Int.reduceLT, Int.reduceNeg, Nat.reduceAdd, Nat.reduceEqDiff, Nat.reduceLT, Nat.reduceLeDiff, Nat.reduceMul, Nat.reduceSub, reduceCtorEq, ↓reduceIte, q0b, List.length_replicate, List.map_replicate]; (first | refine q1m ?_ | skip)); refine .inr (.inr (.inl ⟨?vy1, [168], ?va1, ?vl1, ?vm1, ?cond1, ?cont1⟩)); (case cond1 => ((repeat' apply And.intro) <;> (try ((with_reducible show ToldM _ _ _ _ _ _); exact hW))); (all_goals first | trivial | (simp only [q0b, List.length_replicate, List.map_replicate, go_sem, simprocAttr]; done) | (simp; done) | rfl)); (first | refine hK _ _ _ ?_ | (simp only [q0b, List.length_replicate, List.map_replicate, go_sem, simprocAttr]; first | refine hK _ _ _ ?_ | refine ⟨rfl, hK _ _ _ ?_⟩)); clear hK K)
 refine q0c ?_
 refine retX Tryz.results37 ?_
 exact .c _

theorem z36 (j : JT) (hR : Told Tryz.prog 34 [j.av] (.c (.v (.bool false)))) : Told Tryz.prog 13 [j.av] (.tup [(ST.mk [] 0).av, .c (.v (.int .i64 2))]) := by
 simp only [ST.av_eq, List.map_nil]
 rw [JT.av_eq, q0m] at *
 generalize j.kd = j1 at *
 generalize j.num = j2 at *
 generalize j.txt = j3 at *
 generalize j.its = j4 at *
 generalize j.keys = j5 at *
 refine VC.toldP ent_13 Tryz.func13 rfl Tryz.ntmps13 fun hb => ?_
 clear hb
 refine q0c ?_
 refine q0e (hR) ?_
 refine q0u ?_
 refine retX Tryz.results13 ?_
 exact ⟨.aggL (.cons (.nil 10) (.cons (.c _) .nil)), .c _⟩
theorem z4t (j : JT) (hs : j.sm 1000000) : Told Tryz.prog 13 [j.av] (.tup [(q36 j).1.av, .c (.v (.int .i64 (q36 j).2))]) := by
 have hR := z0p j (sm_le (by omega) j hs)
 cases hr : jR j with
 | false =>
   rw [hr] at hR
   have hb : q36 j = (⟨[], 0⟩, 2) := by
    unfold q36 q49
    rw [hr]
    rfl
   rw [hb]
   exact z36 j hR
 | true =>
   have hd : q1y j ≤ 32 := by
    rw [j3f, Bool.and_eq_true, decide_eq_true_eq] at hr
    exact hr.1
   have K := knode 3000000 rfl 33 j [] (by omega) hs (by simp)
   have hV := K.told [] (by simp)
   have hlen := K.len [] (by simp)
   simp only [List.length_nil, Nat.zero_add] at hlen
   have h := j42 33 j [] []
   unfold BRel at h
   have hB : (q31 33 j [] []).2.2 = 0 → q49 j = .ok ⟨(q31 33 j [] []).1, 0⟩ := fun he => by
    unfold q49
    rw [hr, if_pos rfl, h, he, q2p]
   rw [← bld_eq j]
   refine z37 j (jR j) hR (q31 33 j [] []) hlen hV (wOf (q31 33 j [] []).1) fun i hi he => ?_
   have hb := hB he
   exact z6x ⟨(q31 33 j [] []).1, 0⟩ (j9h hs hb) (j51 hb) i hi

def xS (n : Nat) : Blkd := ⟨false, 66, 2, [[.row 1000001 n, .c (.v (.int .i64 0))]]⟩
theorem j2l (r n0 : Nat) (x : Value) (n : Nat) (h : r ≠ 1000001) : hidB r n0 x (xS n) = xS n := by
 unfold hidB xS
 simp [hidA, Ne.symm h]
theorem openS_scB {es : List EN} {i : Nat} {e0 : EN} (hi : i < es.length) (R : Blkd) (hrow : R.row = true) (hpure : ∀ e ∈ R.elems, ∀ x ∈ e, ∃ p, x = AV.c p) (n' : Nat) (hn' : n' = es.length) (y : AV) (hy : ∀ used h, Sc used h y) :
  ScM ([some (xS n'), some (xNB es i e0 1000002 R.len)] ++ [some R]) y := by
 refine ⟨hy _ _, fun b hb B hB e he => ?_⟩
 simp only [List.mem_append, List.mem_cons, List.not_mem_nil, or_false] at hb
 rcases hb with (rfl | rfl) | rfl
 all_goals obtain rfl := Option.some.inj hB
 · obtain rfl := List.mem_singleton.1 he
   intro z hz
   simp only [List.mem_cons, List.not_mem_nil, or_false] at hz
   rcases hz with rfl | rfl
   · refine .row (by unfold inL; simp) fun B hB => ?_
     obtain rfl := Option.some.inj hB
     show n' ≤ ((rA EN.cells es).set i _).length
     rw [List.length_set, q0a]
     exact Nat.le_of_eq hn'
   · exact .c
 · have hs := (q4z (used := inL ([some (xS n'), some (xNB es i e0 1000002 R.len)] ++ [some R]).length) (h := q0l ([some (xS n'), some (xNB es i e0 1000002 R.len)] ++ [some R])) hi (opB e0 1000002 R.len)).mpr
   rw [q5r] at hs
   refine hs (.row (by unfold inL; simp) fun B hB => ?_) e he
   obtain rfl := Option.some.inj hB
   exact Nat.le_refl _
 · exact j3o hpure e he
theorem z5p {f : FuncId} {args : List AV} {y : AV} {es : List EN} {i : Nat} {e0 : EN} (hi : es[i]? = some e0) (R : Blkd) (hrow : R.row = true) (hpure : ∀ e ∈ R.elems, ∀ x ∈ e, ∃ p, x = AV.c p) (n n' : Nat) (new : List NT)
  (hn : n' = es.length + new.length) (hy : ∀ used h, Sc used h y)
  (hT : ∀ x : Value, ToldM Tryz.prog f args [xS n, xN (es.set i (e0.wb (.v x)))] [some (xS n'), some (xN (es.set i (e0.wb (.v x)) ++ new.map EN.of))] y) :
  ToldM Tryz.prog f args [xS n, xNB es i e0 1000002 R.len, R] [some (xS n'), some (xNB (es ++ new.map EN.of) i e0 1000002 R.len), some R] y := by
 have hlt := (List.getElem?_eq_some_iff.1 hi).1
 refine ToldM.hide (L := [xS n, xNB es i e0 1000002 R.len]) (L' := [some (xS n'), some (xNB (es ++ new.map EN.of) i e0 1000002 R.len)]) R hrow hpure rfl ?_ ?_ ?_
 · intro x _
   have h := hT x
   have hs : es.set i (e0.wb (.v x)) ++ new.map EN.of = (es ++ new.map EN.of).set i (e0.wb (.v x)) := (List.set_append_left i (e0.wb (.v x)) hlt).symm
   rw [hs] at h
   have h1 := j2k es i e0 1000002 R.len x
   have h2 := j2k (es ++ new.map EN.of) i e0 1000002 R.len x
   simp only [List.map_cons, List.map_nil, Option.map_some, List.length_cons, List.length_nil]
   rw [show 1000000 + (0 + 1 + 1) = 1000002 from rfl, j2l _ _ _ _ (by decide), j2l _ _ _ _ (by decide), h1, h2]
   exact h
 · exact ⟨rfl, rfl, rfl, trivial⟩
 · exact openS_scB (by rw [q5q]; omega) R hrow hpure n' (by rw [hn, q5q]) y hy
theorem openS_scF {es : List EN} {i : Nat} {e0 : EN} (hi : i < es.length) (R : Blkd) (hrow : R.row = true) (hpure : ∀ e ∈ R.elems, ∀ x ∈ e, ∃ p, x = AV.c p) (n' : Nat) (hn' : n' = es.length) (y : AV) (hy : ∀ used h, Sc used h y) :
  ScM ([some (xS n'), some (xNF es i e0 1000002 R.len)] ++ [some R]) y := by
 refine ⟨hy _ _, fun b hb B hB e he => ?_⟩
 simp only [List.mem_append, List.mem_cons, List.not_mem_nil, or_false] at hb
 rcases hb with (rfl | rfl) | rfl
 all_goals obtain rfl := Option.some.inj hB
 · obtain rfl := List.mem_singleton.1 he
   intro z hz
   simp only [List.mem_cons, List.not_mem_nil, or_false] at hz
   rcases hz with rfl | rfl
   · refine .row (by unfold inL; simp) fun B hB => ?_
     obtain rfl := Option.some.inj hB
     show n' ≤ ((rA EN.cells es).set i _).length
     rw [List.length_set, q0a]
     exact Nat.le_of_eq hn'
   · exact .c
 · have hs := (q4z (used := inL ([some (xS n'), some (xNF es i e0 1000002 R.len)] ++ [some R]).length) (h := q0l ([some (xS n'), some (xNF es i e0 1000002 R.len)] ++ [some R])) hi (opF e0 1000002 R.len)).mpr
   rw [j2r] at hs
   refine hs (.row (by unfold inL; simp) fun B hB => ?_) e he
   obtain rfl := Option.some.inj hB
   exact Nat.le_refl _
 · exact j3o hpure e he
theorem z5o {f : FuncId} {args : List AV} {y : AV} {es : List EN} {i : Nat} {e0 : EN} (hi : es[i]? = some e0) (R : Blkd) (hrow : R.row = true) (hpure : ∀ e ∈ R.elems, ∀ x ∈ e, ∃ p, x = AV.c p) (n n' : Nat) (new : List NT)
  (hn : n' = es.length + new.length) (hy : ∀ used h, Sc used h y)
  (hT : ∀ x : Value, ToldM Tryz.prog f args [xS n, xN (es.set i (e0.wf (.v x)))] [some (xS n'), some (xN (es.set i (e0.wf (.v x)) ++ new.map EN.of))] y) :
  ToldM Tryz.prog f args [xS n, xNF es i e0 1000002 R.len, R] [some (xS n'), some (xNF (es ++ new.map EN.of) i e0 1000002 R.len), some R] y := by
 have hlt := (List.getElem?_eq_some_iff.1 hi).1
 refine ToldM.hide (L := [xS n, xNF es i e0 1000002 R.len]) (L' := [some (xS n'), some (xNF (es ++ new.map EN.of) i e0 1000002 R.len)]) R hrow hpure rfl ?_ ?_ ?_
 · intro x _
   have h := hT x
   have hs : es.set i (e0.wf (.v x)) ++ new.map EN.of = (es ++ new.map EN.of).set i (e0.wf (.v x)) := (List.set_append_left i (e0.wf (.v x)) hlt).symm
   rw [hs] at h
   have h1 := j3d es i e0 1000002 R.len x
   have h2 := j3d (es ++ new.map EN.of) i e0 1000002 R.len x
   simp only [List.map_cons, List.map_nil, Option.map_some, List.length_cons, List.length_nil]
   rw [show 1000000 + (0 + 1 + 1) = 1000002 from rfl, j2l _ _ _ _ (by decide), j2l _ _ _ _ (by decide), h1, h2]
   exact h
 · exact ⟨rfl, rfl, rfl, trivial⟩
 · exact openS_scF (by rw [q5q]; omega) R hrow hpure n' (by rw [hn, q5q]) y hy
theorem z1o {f : FuncId} {args : List AV} {y : AV} {X N : Blkd} (R : Blkd) (hrow : R.row = true) (hpure : ∀ e ∈ R.elems, ∀ x ∈ e, ∃ p, x = AV.c p) (hy : ∀ used h, Sc used h y)
  (hT : ∀ x : Value, ToldM Tryz.prog f args [hidB 1000002 R.len x X, hidB 1000002 R.len x N] [none, none] y) : ToldM Tryz.prog f args [X, N, R] [none, none, some R] y := by
 refine ToldM.hide (L := [X, N]) (L' := [none, none]) R hrow hpure rfl ?_ ⟨rfl, trivial⟩ ⟨hy _ _, fun b hb B hB e he => ?_⟩
 · intro x _
   exact hT x
 · simp only [List.cons_append, List.nil_append, List.mem_cons, List.not_mem_nil, or_false] at hb
   rcases hb with rfl | rfl | rfl
   · simp at hB
   · simp at hB
   · obtain rfl := Option.some.inj hB
     exact j3o hpure e he
theorem openS_no {f : FuncId} {args : List AV} {y : AV} {es : List EN} {i : Nat} {e0 : EN} (R : Blkd) (hrow : R.row = true) (hpure : ∀ e ∈ R.elems, ∀ x ∈ e, ∃ p, x = AV.c p) (n : Nat) (hy : ∀ used h, Sc used h y)
  (hT : ∀ x : Value, ToldM Tryz.prog f args [xS n, xN (es.set i (e0.wb (.v x)))] [none, none] y) : ToldM Tryz.prog f args [xS n, xNB es i e0 1000002 R.len, R] [none, none, some R] y :=
 z1o R hrow hpure hy fun x => by
  rw [j2l _ _ _ _ (by decide), j2k]
  exact hT x
theorem openSF_no {f : FuncId} {args : List AV} {y : AV} {es : List EN} {i : Nat} {e0 : EN} (R : Blkd) (hrow : R.row = true) (hpure : ∀ e ∈ R.elems, ∀ x ∈ e, ∃ p, x = AV.c p) (n : Nat) (hy : ∀ used h, Sc used h y)
  (hT : ∀ x : Value, ToldM Tryz.prog f args [xS n, xN (es.set i (e0.wf (.v x)))] [none, none] y) : ToldM Tryz.prog f args [xS n, xNF es i e0 1000002 R.len, R] [none, none, some R] y :=
 z1o R hrow hpure hy fun x => by
  rw [j2l _ _ _ _ (by decide), j3d]
  exact hT x
structure RT (f : FuncId) (es : List EN) (args : List AV) (B : BR (List NT × Int)) : Prop where
 yes : ∀ new k, B = .ok (new, k) → ToldM Tryz.prog f (.ref 1000000 1 0 0 :: args) [xS es.length, xN es] [some (xS (es ++ new.map EN.of).length), some (xN (es ++ new.map EN.of))] (.tup [.c (.v (.int .i64 k)), .c (.v (.int .i64 0))])
 no : ∀ e, B = .error e → ToldM Tryz.prog f (.ref 1000000 1 0 0 :: args) [xS es.length, xN es] [none, none] (.tup [.c (.v (.int .i64 0)), .c (.v (.int .i64 e))])
theorem RT.co {f : FuncId} {es : List EN} {args args' : List AV} {B : BR (List NT × Int)} (h : RT f es args' B) (hc : CoL args args') : RT f es args B :=
 ⟨fun new k hB => (h.yes new k hB).co (.cons (.same _) hc), fun e hB => (h.no e hB).co (.cons (.same _) hc)⟩
section
section
variable {P : Program} {N : Nat} {Q : Exit → ASt → Prop}
theorem VC.nilRV {c : Code} {t : Nat → AV} {h : Nat → Option Blkd} {n : Nat} (k0 j i o : Nat) (T : TypeId) (z : Nat) (B : Blkd) (e : List AV) (hB : h j = some B) (he : B.elems[i]? = some e) (ho : e[o]? = some (.c (.v (.slice none 0 0)))) (hk : (t k0).get = .c (.v (.slice none 0 0))) (hko : (t k0).okb) (hn : Nat.ble (n + 1) L0 = true)
  (hv : VC P N c ⟨upd t k0 (.row n 0), upd (upd h n (some ⟨true, T, z, []⟩)) j (some ⟨B.row, B.T, B.z, B.elems.set i (e.set o (.row n 0))⟩), n + 8⟩ Q) : VC P N c ⟨t, h, n⟩ Q := ⟨fun C a W r => by
 obtain ⟨ro, φ, r⟩ := r
 have hn := Nat.le_of_ble_eq_true hn
 have hnu : ¬ Used n n := fun hu => by unfold Used at hu; omega
 have hjn : j ≠ n := fun e => hnu (e ▸ (r.scH j B hB).1)
 have r2 : Rel C (fun j => Used n j ∨ j = n) N t (upd h n (some ⟨true, T, z, []⟩)) ro (upd φ n (.slice none 0 0)) a W :=
  r.block (W' := W) (Keeps.refl _ _) (fun b hb => by simp [q0y] at hb) (.inr hnu)
   ⟨fun i e he => by simp at he, fun e he => by simp at he, [], ⟨rfl, fun j x v hx => by simp at hx⟩, by rw [if_pos rfl, q1a]; exact World.ownsRow_nil W 0 T z⟩ (fun e he => by simp at he)
 have r3 := r2.take (used' := Used (n + 8)) fun j hj => by
  unfold Used at hj ⊢
  omega
 have hB3 : upd h n (some ⟨true, T, z, []⟩) j = some B := by rw [q1p _ _ hjn]; exact hB
 obtain ⟨b1, b2, vs, b3, b4⟩ := r3.hp j B hB3
 have hsl : (e.set o (AV.row n 0)).length = e.length := List.length_set
 have hmem : e ∈ B.elems := List.mem_of_getElem? he
 have hol := (List.getElem?_eq_some_iff.1 ho).1
 have hg : ∀ k B', Used (n + 8) k → upd (upd h n (some ⟨true, T, z, []⟩)) j (some ⟨B.row, B.T, B.z, B.elems.set i (e.set o (.row n 0))⟩) k = some B' → ∃ B0, upd h n (some ⟨true, T, z, []⟩) k = some B0 ∧ (B0.len < B'.len ∨ (B0.len = B'.len ∧ B0.z = B'.z ∧ upd (upd φ n (.slice none 0 0)) j (upd φ n (.slice none 0 0) j) k = upd φ n (.slice none 0 0) k)) := by
  intro k B' hk hB'
  by_cases hkj : k = j
  · subst hkj
    rw [q1a] at hB'
    obtain rfl := Option.some.inj hB'
    exact ⟨B, hB3, .inr ⟨by unfold Blkd.len; rw [List.length_set], rfl, by rw [q1a]⟩⟩
  · rw [q1p _ _ hkj] at hB'
    exact ⟨B', hB', .inr ⟨rfl, rfl, q1p _ _ hkj⟩⟩
 have hnew : ∀ (i : Nat) (x : AV), (e.set o (.row n 0))[i]? = some x → e[i]? = some x ∨ (x = .row n 0 ∧ e[i]? = some (.c (.v (.slice none 0 0)))) := by
  intro i x hx
  by_cases hio : i = o
  · subst hio
    rw [List.getElem?_set_self hol] at hx
    exact .inr ⟨(Option.some.inj hx).symm, ho⟩
  · rw [List.getElem?_set_ne (fun e => hio e.symm)] at hx
    exact .inl hx
 have hsetm : ∀ e' ∈ B.elems.set i (e.set o (.row n 0)), e' ∈ B.elems ∨ e' = e.set o (.row n 0) := fun e' he' => List.mem_or_eq_of_mem_set he'
 have hrow0 : ∀ v : Value, v = .slice none 0 0 → Rep W ro (upd (upd φ n (.slice none 0 0)) j (upd φ n (.slice none 0 0) j)) (upd (upd h n (some ⟨true, T, z, []⟩)) j (some ⟨B.row, B.T, B.z, B.elems.set i (e.set o (.row n 0))⟩)) (.row n 0) v := by
  rintro v rfl
  refine .row rfl fun B' hB' _ => ?_
  rw [q1p _ _ (fun e => hjn e.symm), q1a]
 have hscn : Sc (fun k => Used (n + 8) k ∨ k = j) (upd (upd h n (some ⟨true, T, z, []⟩)) j (some ⟨B.row, B.T, B.z, B.elems.set i (e.set o (.row n 0))⟩)) (.row n 0) := by
  refine .row (.inl (by unfold Used; omega)) fun B' hB' => Nat.zero_le _
 have r4 := r3.block (W' := W) (ℓ := j) (B := ⟨B.row, B.T, B.z, B.elems.set i (e.set o (.row n 0))⟩) (v := upd φ n (.slice none 0 0) j) (Keeps.refl _ _) (fun b hb => .inr ⟨B, hB3, hb⟩)
  (.inl ⟨B, hB3, .inr ⟨by unfold Blkd.len; rw [List.length_set], rfl, rfl⟩⟩)
  ⟨fun q e' he' => by
    rcases hsetm e' (List.mem_of_getElem? he') with h5 | rfl
    · obtain ⟨q', hq', hqe⟩ := List.getElem_of_mem h5
      exact b1 q' e' (by rw [List.getElem?_eq_getElem hq', hqe])
    · rw [hsl]; exact b1 i e he,
   fun e' he' x hx => by
    rcases hsetm e' he' with h5 | rfl
    · exact b2 e' h5 x hx
    · obtain ⟨q, hq, hxi⟩ := List.getElem_of_mem hx
      rcases hnew q x (by rw [List.getElem?_eq_getElem hq, hxi]) with h5 | ⟨rfl, _⟩
      · exact b2 e hmem x (List.mem_of_getElem? h5)
      · rfl,
   vs, by
    refine ⟨by rw [b3.1]; exact (j6k _ _ _ _ he hsl).symm, fun q x v hx hvv => ?_⟩
    rcases j6j _ _ _ _ he hsl hnew q x hx with h5 | ⟨rfl, h5⟩
    · obtain ⟨e0, he0, hx0⟩ := List.mem_flatten.1 (List.mem_of_getElem? h5)
      exact (b3.2 q x v h5 hvv).map ((r3.scH j B hB3).2 e0 he0 x hx0) (fun _ _ => rfl) (fun _ h => h) hg
    · exact hrow0 v (q13 (b3.2 q _ v h5 hvv)), by
    have hbl : (⟨B.row, B.T, B.z, B.elems.set i (e.set o (.row n 0))⟩ : Blkd).len = B.len := by unfold Blkd.len; rw [List.length_set]
    rw [q1a]
    simp only [hbl] at b4 ⊢
    exact b4⟩
  (fun e' he' x hx => by
   have hmp : ∀ x, (∃ e0, e0 ∈ B.elems ∧ x ∈ e0) → Sc (fun k => Used (n + 8) k ∨ k = j) (upd (upd h n (some ⟨true, T, z, []⟩)) j (some ⟨B.row, B.T, B.z, B.elems.set i (e.set o (.row n 0))⟩)) x := by
    rintro x ⟨e0, he0, hx0⟩
    refine ((r3.scH j B hB3).2 e0 he0 x hx0).map (fun k hk => .inl hk) fun k B' hk hB' => ?_
    obtain ⟨B0, h6, h7⟩ := hg k B' hk hB'
    exact ⟨B0, h6, by rcases h7 with h7 | h7 <;> omega⟩
   rcases hsetm e' he' with h5 | rfl
   · exact hmp x ⟨e', h5, hx⟩
   · obtain ⟨q, hq, hxi⟩ := List.getElem_of_mem hx
     rcases hnew q x (by rw [List.getElem?_eq_getElem hq, hxi]) with h5 | ⟨rfl, _⟩
     · exact hmp x ⟨e, hmem, List.mem_of_getElem? h5⟩
     · exact hscn)
 have r5 := r4.take (used' := Used (n + 8)) fun k hk => by
  rcases hk with hk | rfl
  · exact hk
  · have := (r.scH k B hB).1
    unfold Used at this ⊢
    simp only [] at this
    omega
 have hv0 := (r.tm k0).get hko
 rw [hk] at hv0
 have hv1 := q13 hv0
 refine hv.out C a W ⟨ro, _, r5.keep, r5.defers, r5.size, fun m => ?_, r5.hp, r5.inj, r5.own, r5.rolt, r5.ro0, r5.ronew, fun m => ?_, r5.scH, r5.lent, r5.glob⟩
 · show Rep W ro _ _ (upd t k0 (.row n 0) m) _
   by_cases hm : m = k0
   · rw [hm, q1a, hv1]
     exact hrow0 _ rfl
   · rw [q1p _ _ hm]
     exact r5.tm m
 · show Sc _ _ (upd t k0 (.row n 0) m)
   by_cases hm : m = k0
   · rw [hm, q1a]
     exact .row (by unfold Used; simp only []; omega) fun B hB => Nat.zero_le _
   · rw [q1p _ _ hm]
     exact r5.scT m⟩
end
end

theorem idxQ_at {ks : List (List UInt8)} {key : List UInt8} {i : Nat} (h : ks[i]? = some key) (hn : key ∉ ks.take i) : idxS key ks = (i : Int) := by
 have hlt := (List.getElem?_eq_some_iff.1 h).1
 have hf : ks.findIdx? (fun k => decide (key = k)) = some i := by
  rw [List.findIdx?_eq_some_iff_getElem]
  refine ⟨hlt, by simp [(List.getElem?_eq_some_iff.1 h).2], fun j hj => ?_⟩
  simp
  intro e
  apply hn
  rw [List.mem_iff_getElem?]
  exact ⟨j, by rw [List.getElem?_take_of_lt hj, List.getElem?_eq_getElem (by omega), e]⟩
 unfold idxS
 rw [hf]
theorem idxQ_none {ks : List (List UInt8)} {key : List UInt8} (hn : key ∉ ks) : idxS key ks = -1 := by
 have hf : ks.findIdx? (fun k => decide (key = k)) = none := by
  rw [List.findIdx?_eq_none_iff]
  intro x hx
  simp
  intro e
  subst e
  exact hn hx
 unfold idxS
 rw [hf]
theorem idxQ_ge {ks : List (List UInt8)} {key : List UInt8} {i : Nat} (hn : key ∉ ks.take i) : idxS key ks = -1 ∨ (i : Int) ≤ idxS key ks := by
 by_cases hm : key ∈ ks
 · right
   unfold idxS
   cases hf : ks.findIdx? (fun k => decide (key = k)) with
   | none =>
     have := List.findIdx?_eq_none_iff.1 hf key hm
     simp at this
   | some j =>
     obtain ⟨h1, h2, _⟩ := List.findIdx?_eq_some_iff_getElem.1 hf
     simp at h2
     simp only []
     have : ¬ j < i := fun hj => hn (by
      rw [List.mem_iff_getElem?]
      exact ⟨j, by rw [List.getElem?_take_of_lt hj, List.getElem?_eq_getElem h1, ← h2]⟩)
     omega
 · exact .inl (idxQ_none hm)
theorem q4k (t : JT) (key : List UInt8) : Told Tryz.prog 131 [t.av, .c (.v (.string (str key)))] (.tup [((jget t key).getD zJ).av, .c (.v (.bool (jget t key).isSome))]) := by
 cases t with
 | mk k n s ks xs =>
 refine VC.told ent_131 Tryz.func131 rfl Tryz.ntmps131 (by simp) (by rfl) (by simp [AV.pureB, AV.pureL, JT.av, q20]) fun hb => ?_
 simp only [JT.av, q0t, List.map_cons, List.map_nil, q8f, q47, q81, q5d, List.mem_cons, List.not_mem_nil, or_false, forall_eq_or_imp, forall_eq, true_and, List.length_map] at hb ⊢
 have hx1 := hb.1.1.1
 have hk1 := hb.1.2.1
 clear hb
 refine q0c ?_
 refine VC.loop (ι := {i : Nat // i ≤ ks.length ∧ key ∉ ks.take i}) (fun i => [(1, .c (.v (.string (str key)))), (2, .ref 0 1 0 0), (4, .ref 8 1 0 0), (6, .c (.v (.int .i64 i.1)))])
  (fun _ => [(0, ⟨false, 25, 5, [(JT.mk k n s ks xs).cells.map .c]⟩), (8, ⟨false, 25, 5, [[.c (.v (.int .i64 0)), .c (.v (.int .i64 0)), .c (.v (.string ⟨#[]⟩)), .c (.v (.slice none 0 0)), .c (.v (.slice none 0 0))]]⟩)]) 16 (fun i => ks.length - i.1) ⟨0, Nat.zero_le _, by simp⟩ ?_ ?_
 · simp only [q0t, Weak, eq_self, q09, q03, sc_c, q05, q06, q07, q02, q04, ScL, q08, List.forall_mem_map, go_sem, Int.reduceBEq, Int.reduceLE, Int.reduceLT, Int.reduceNeg, Nat.reduceAdd, Nat.reduceEqDiff, Nat.reduceLT, Nat.reduceLeDiff, Nat.reduceMul, Nat.reduceSub, reduceCtorEq, ↓reduceIte]
   all_goals rfl
 rintro ⟨i, hi, hni⟩
 refine q0d (@q0t) ?_
 refine VC.cond (by rfl) (by trivial) (fun hc => ?_) (fun hc => ?_)
 · have hcc : i < ks.length ∧ i < xs.length ∧ k = 6 := by
    simp at hc
    omega
   obtain ⟨hc1, hc2, rfl⟩ := hcc
   clear hc
   obtain ⟨y, hy⟩ : ∃ y, ks[i]? = some y := ⟨ks[i], List.getElem?_eq_getElem hc1⟩
   obtain ⟨x, hx⟩ : ∃ x, xs[i]? = some x := ⟨xs[i], List.getElem?_eq_getElem hc2⟩
   have hw : IntKind.i64.wrap ((i : Int) + 1) = (i : Int) + 1 := q0w (by omega) (by omega)
   refine q0d (And.intro @q0t (And.intro @q4w (And.intro hy (And.intro @q6a @q2i)))) ?_
   refine VC.cond (by rfl) (by trivial) (fun hc => ?_) (fun hc => ?_)
   · have he : y = key := by simpa using hc
     subst he
     have hg : jget (.mk 6 n s ks xs) y = some x := by
      rw [jget, idxQ_at hy hni, if_pos ⟨rfl, by omega⟩]
      simpa using hx
     rw [hg]
     refine q0d (And.intro @q0t (And.intro @q4w (And.intro hx (And.intro @q2n (And.intro @q3a @q2t))))) ?_
     refine ⟨.inr rfl, ?_⟩
     rw [Tryz.results131]
     simp only [q2n, q2t, q1x, resV, go_sem, simprocAttr]
     exact ⟨Frz.cs _ _, .c _⟩
   · have hne : y ≠ key := by simpa using hc
     refine q0d (hw) ?_
     refine .next ⟨i + 1, by omega, ?_⟩ ?_ (by simp only []; omega)
     · rw [List.take_add_one, hy]
       simp only [Option.toList_some, List.mem_append, List.mem_singleton, not_or]
       exact ⟨hni, fun e => hne e.symm⟩
     · refine q1l (@q0t) ?_
       exact cI (by omega)
 · have hg : jget (.mk k n s ks xs) key = none := by
    rw [jget]
    split
    · rename_i h
      have h3 := idxQ_ge hni
      have h4 := idxS_le key ks
      rw [List.getElem?_eq_none]
      simp [h.1] at hc
      omega
    · rfl
   rw [hg]
   refine q0c ?_
   refine ⟨.inr rfl, ?_⟩
   rw [Tryz.results131]
   simp only [q1x, resV, go_sem, simprocAttr]
   exact ⟨frz_zJ _, .c _⟩

theorem q6s (k : Int) : Told Tryz.prog 80 [.c (.v (.int .i64 k))] (.c (.v (.bool (q1w k)))) := by
 obtain ⟨V, hV⟩ : ∃ V, V = q1w k := ⟨_, rfl⟩
 rw [← hV]
 unfold q1w at hV
 replace hV := Lib.hid hV
 refine VC.toldP ent_80 Tryz.func80 rfl Tryz.ntmps80 fun hb => ?_
 clear hb
 refine q0c ?_
 refine retX Tryz.results80 ?_
 rw [hV.out]
 exact .c _

theorem j7n (es : List EN) (hl : es.length < 200) (m : EN) : ToldM Tryz.prog 128 [.ref 1000000 1 0 0, m.av] [xS es.length, xN es] [some (xS (es.length + 1)), some (xN (es ++ [m]))] (.tup [.c (.v (.int .i64 (es.length : Int))), .c (.v (.int .i64 0))]) := by
 unfold xS xN
 rw [EN.av_eq, q2v]
 have hne : ((es.length : Int) == 200) = false := by simp; omega
 have hw : IntKind.i64.wrap (((es.length + 1 : Nat) : Int) - 1) = (es.length : Int) := by rw [show ((es.length + 1 : Nat) : Int) - 1 = (es.length : Int) by omega]; exact q0w (by omega) (by omega)
 have hone : rA EN.cells es ++ [[.c (.v (.int .i64 m.n.kind)), .c (.v (.string (str m.n.name))), .c (.sl 1 (m.n.aliases.map sPV)), .c m.f, .c (.sl 1 (m.n.symbols.map sPV)), .c (.v (.bool m.n.has)), .c (.v (.string (str m.n.dflt))), .c (.v (.int .i64 m.n.size)), .c (.v (.int .i64 m.n.items)), .c m.b]] = rA EN.cells (es ++ [m]) := q58 EN.cells es m
 have hlen : (es ++ [m]).length = es.length + 1 := by simp
 refine VC.toldXF (And.intro @q0a (And.intro @q0g hlen)) ent_128 [] Tryz.func128 rfl Tryz.ntmps128 fun hb hbL => ?_
 clear hb hbL
 refine q0f (And.intro @q0b (And.intro @q0a (And.intro hne (And.intro hone (And.intro hlen hw))))) ?_
 refine q0j (And.intro @q0b (And.intro hone hlen)) Tryz.results128 ?_
 exact ⟨.c _, .c _⟩
theorem z12 (es : List EN) (hl : es.length = 200) (m : EN) : ToldM Tryz.prog 128 [.ref 1000000 1 0 0, m.av] [xS es.length, xN es] [none, none] (.tup [.c (.v (.int .i64 0)), .c (.v (.int .i64 3))]) := by
 unfold xS xN
 rw [EN.av_eq, q2v]
 have hne : ((es.length : Int) == 200) = true := by simp; omega
 refine VC.toldXF (And.intro @q0a @q0g) ent_128 [] Tryz.func128 rfl Tryz.ntmps128 fun hb hbL => ?_
 clear hb hbL
 refine q0f (And.intro @q0b (And.intro @q0a hne)) ?_
 refine q0j (@q0b) Tryz.results128 ?_
 exact ⟨.c _, .c _⟩
theorem j49 (es : List EN) (hl : es.length ≤ 200) (n : NT) : RT 128 es [(EN.of n).av] (q3k (hsE es) n) := by
 have hsl : (hsE es).length = es.length := by rw [hsE, List.length_map]
 refine ⟨fun new k h => ?_, fun e h => ?_⟩
 · unfold q3k at h
   split at h
   · simp at h
   · injection h with h
     injection h with h1 h2
     subst h1 h2
     rw [hsl]
     simp only [List.map_cons, List.map_nil, List.length_append, List.length_singleton]
     exact j7n es (by omega) (EN.of n)
 · unfold q3k at h
   split at h
   · injection h with h
     subst h
     exact z12 es (by omega) (EN.of n)
   · simp at h
theorem q5v (j : JT) (key : List UInt8) : Told Tryz.prog 77 [j.av, .c (.v (.string (str key)))] (.tup [.c (.v (.string (str (gt j key).txt))), .c (.v (.bool ((gt j key).kd == 4)))]) := by
 have hG := q4k j key
 have hsome : (jget j key).isSome = false → ((gt j key).kd == 4) = false := by
  intro h
  unfold gt
  cases hq : jget j key with
  | none => rfl
  | some y => rw [hq] at h; simp at h
 rw [show (jget j key).getD zJ = gt j key from rfl] at hG
 generalize (jget j key).isSome = b at hG hsome
 generalize gt j key = x at *
 rw [JT.av_eq x, q0m x] at hG
 rw [JT.av_eq, q0m] at hG ⊢
 generalize j.kd = j1 at *
 generalize j.num = j2 at *
 generalize j.txt = j3 at *
 generalize j.its = j4 at *
 generalize j.keys = j5 at *
 generalize x.kd = x1 at *
 generalize x.num = x2 at *
 generalize x.txt = x3 at *
 generalize x.its = x4 at *
 generalize x.keys = x5 at *
 cases b with
 | false =>
   rw [hsome rfl]
   refine VC.toldP ent_77 Tryz.func77 rfl Tryz.ntmps77 fun hb => ?_
   clear hb
   refine q0c ?_
   refine q0e (hG) ?_
   refine q0u ?_
   refine retX Tryz.results77 ?_
   exact ⟨.c _, .c _⟩
 | true =>
   refine VC.toldP ent_77 Tryz.func77 rfl Tryz.ntmps77 fun hb => ?_
   clear hb
   refine q0c ?_
   refine q0e (hG) ?_
   refine q0u ?_
   refine retX Tryz.results77 ?_
   exact ⟨.c _, .c _⟩
theorem z1z (es : List EN) (hl : es.length ≤ 1000000) (r : Int) (name : List UInt8) : Told Tryz.prog 130 [.agg [.c (.sl 10 (es.map EN.cells)), .c (.v (.int .i64 r))], .c (.v (.string (str name)))] (.c (.v (.int .i64 (q19 (hsE es) name)))) := by
 obtain ⟨V, hV⟩ : ∃ V, V = q19 (hsE es) name := ⟨_, rfl⟩
 rw [← hV]
 rw [show hsE es = es.map fun e => q0p e.n from rfl, j97] at hV
 refine VC.toldP ent_130 Tryz.func130 rfl Tryz.ntmps130 fun hb => ?_
 clear hb
 refine q0c ?_
 refine VC.loop (ι := {i : Nat // i ≤ es.length ∧ ∀ j x, j < i → es[j]? = some x → isE name x = false}) (fun q => [(1, .c (.v (.string (str name)))), (2, .ref 0 1 0 0), (5, .c (.v (.int .i64 (q.1 : Int))))])
  (fun _ => [(0, ⟨false, 30, 2, [[.c (.sl 10 (es.map EN.cells)), .c (.v (.int .i64 r))]]⟩)]) 800 (fun q => es.length - q.1) ⟨0, Nat.zero_le _, by intro j x hj; omega⟩ ?_ ?_
 · simp only [Weak, eq_self, q09, q03, sc_c, q05, q06, q07, q02, q04, ScL, q08, List.forall_mem_map, go_sem, Int.reduceBEq, Int.reduceLE, Int.reduceLT, Int.reduceNeg, Nat.reduceAdd, Nat.reduceEqDiff, Nat.reduceLT, Nat.reduceLeDiff, Nat.reduceMul, Nat.reduceSub, reduceCtorEq, ↓reduceIte]
   all_goals rfl
 rintro ⟨i, hi, ht⟩
 simp only []
 refine q0c ?_
 refine VC.cond (by rfl) (by trivial) (fun hc => ?_) (fun hc => ?_)
 · have hlt : i < es.length := by simp at hc; omega
   obtain ⟨x, hx⟩ : ∃ x, es[i]? = some x := ⟨es[i], List.getElem?_eq_getElem hlt⟩
   have hw : IntKind.i64.wrap ((i : Int) + 1) = (i : Int) + 1 := q0w (by omega) (by omega)
   have hxp : (es.map EN.cells)[i]? = some x.cells := by rw [List.getElem?_map, hx]; rfl
   rw [q2v] at hxp
   have hN := q6s x.n.kind
   have hE : isE name x = (q1w x.n.kind && x.n.name == name) := rfl
   refine q0d (hxp) ?_
   refine q0e (hN) ?_
   cases hk : q1w x.n.kind with
   | false =>
     rw [hk, Bool.false_and] at hE
     refine q0f (And.intro hxp hw) ?_
     refine .next ⟨i + 1, by omega, fun j y hj hy => ?_⟩ ?_ (by simp only []; omega)
     · rcases Nat.lt_or_ge j i with h | h
       · exact ht j y h hy
       · obtain rfl : j = i := by omega
         rw [hx] at hy
         obtain rfl := Option.some.inj hy
         exact hE
     refine q4q ?_
     exact cI (by omega)
   | true =>
     rw [hk, Bool.true_and] at hE
     refine q0d (And.intro hxp (And.intro hw @q2i)) ?_
     refine VC.cond (by rfl) (by trivial) (fun hq => ?_) (fun hq => ?_)
     · have hr := j2m hx (hE.trans hq) ht
       rw [← hV] at hr
       refine q0c ?_
       refine retX Tryz.results130 ?_
       rw [hr]
       exact .c _
     · refine q0d (hw) ?_
       refine .next ⟨i + 1, by omega, fun j y hj hy => ?_⟩ ?_ (by simp only []; omega)
       · rcases Nat.lt_or_ge j i with h | h
         · exact ht j y h hy
         · obtain rfl : j = i := by omega
           rw [hx] at hy
           obtain rfl := Option.some.inj hy
           exact hE.trans hq
       refine q4q ?_
       exact cI (by omega)
 · have hie : i = es.length := by simp at hc; omega
   subst hie
   have hr := j2n ht
   rw [← hV] at hr
   refine q0c ?_
   refine retX Tryz.results130 ?_
   rw [hr]
   exact .c _

theorem j76 (x : JT) : (q2u 0 x = 30 ∧ x.kd ≠ 5) ∨ (q2u 0 x = 30 ∧ x.kd = 5 ∧ (x.its.any fun y => y.kd != 4) = true) ∨ (q2u 0 x = 3 ∧ x.kd = 5 ∧ (x.its.any fun y => y.kd != 4) = false ∧ 40 < x.its.length) ∨
  (q2u 0 x = 0 ∧ x.kd = 5 ∧ (x.its.any fun y => y.kd != 4) = false ∧ x.its.length ≤ 40) := by
 unfold q2u
 by_cases hk : x.kd = 5
 · rw [show (x.kd != 5) = false by simpa using hk, fl_f]
   cases ha : x.its.any fun y => y.kd != 4 with
   | true =>
     rw [fl_t, q1i 30 _ _ (by decide)]
     exact .inr (.inl ⟨rfl, hk, rfl⟩)
   | false =>
     rw [fl_f]
     by_cases hl : 40 < x.its.length
     · rw [decide_eq_true hl]
       exact .inr (.inr (.inl ⟨rfl, hk, rfl, hl⟩))
     · rw [decide_eq_false hl]
       exact .inr (.inr (.inr ⟨rfl, hk, rfl, by omega⟩))
 · rw [show (x.kd != 5) = true by simpa using hk, fl_t, q1i 30 _ _ (by decide), q1i 30 _ _ (by decide)]
   exact .inl ⟨rfl, hk⟩
theorem any_next {l : List JT} {i : Nat} {y : JT} (hy : l[i]? = some y) : (l.take (i + 1)).any (fun y => y.kd != 4) = ((l.take i).any (fun y => y.kd != 4) || y.kd != 4) := by
 rw [List.take_add_one, hy]
 simp
theorem any_at {l : List JT} (h : (l.any fun y => y.kd != 4) = false) {i : Nat} {y : JT} (hy : l[i]? = some y) : y.kd = 4 := by
 rw [List.any_eq_false] at h
 have := h y (List.mem_of_getElem? hy)
 simpa using this
/-- A list that has no texts, or too many. -/
theorem j7t (x : JT) (hl : x.its.length ≤ 1000000) (hne : q2u 0 x ≠ 0) : Told Tryz.prog 136 [x.av] (.tup [.c (.sl 1 []), .c (.v (.int .i64 (q2u 0 x)))]) := by
 have hcs := j76 x
 generalize q2u 0 x = e at hcs hne ⊢
 rw [JT.av_eq, q0m]
 generalize x.kd = x1 at *
 generalize x.num = x2 at *
 generalize x.txt = x3 at *
 generalize x.its = l at *
 generalize x.keys = x5 at *
 by_cases hk : x1 = 5
 · subst hk
   refine VC.toldP j4c Tryz.func136 rfl Tryz.ntmps136 fun hb => ?_
   clear hb
   refine q0u ?_
   refine VC.nil 4 9 1 (by rfl) (by trivial) (by rfl) ?_
   refine VC.loop (ι := {i : Nat // i ≤ l.length ∧ ((l.take i).any fun y => y.kd != 4) = false}) (fun q => [(1, .ref 0 1 0 0), (4, .row 64 q.1), (5, .c (.v (.int .i64 (q.1 : Int))))])
    (fun q => [(0, ⟨false, 25, 5, [[.c (.v (.int .i64 5)), .c (.v (.int .i64 x2)), .c (.v (.string (str x3))), .c (.sl 5 (l.map JT.cells)), .c (.sl 1 (x5.map sPV))]]⟩), (64, ⟨true, 9, 1, rA sPV ((l.take q.1).map JT.txt)⟩)]) 800 (fun q => l.length - q.1) ⟨0, Nat.zero_le _, rfl⟩ ?_ ?_
   · exact q6e (And.intro @q32 (And.intro @q0a @q0g))
   rintro ⟨i, hi, han⟩
   simp only []
   have hti : ((l.take i).map JT.txt).length = i := by simp; omega
   refine q0c ?_
   refine VC.cond (by rfl) (by trivial) (fun hc => ?_) (fun hc => ?_)
   · have hlt : i < l.length := by simp at hc; omega
     obtain ⟨y, hy⟩ : ∃ y, l[i]? = some y := ⟨l[i], List.getElem?_eq_getElem hlt⟩
     have hyp : (l.map JT.cells)[i]? = some [.v (.int .i64 y.kd), .v (.int .i64 y.num), .v (.string (str y.txt)), .sl 5 (y.its.map JT.cells), .sl 1 (y.keys.map sPV)] := by rw [List.getElem?_map, hy, ← q0m]; rfl
     have hw : IntKind.i64.wrap ((i : Int) + 1) = (i : Int) + 1 := q0w (by omega) (by omega)
     have hap := j5o hy
     have hti2 : ((l.take (i + 1)).map JT.txt).length = i + 1 := by simp; omega
     by_cases h4 : y.kd = 4
     · have q4 : (y.kd != 4) = false := by simpa using h4
       refine q0f (And.intro hyp (And.intro q4 (And.intro @q0a (And.intro hti (And.intro hap hw))))) ?_
       refine .next ⟨i + 1, by omega, by rw [any_next hy, han, q4]; rfl⟩ ?_ (by simp only []; omega)
       refine q1l (And.intro @q0a (And.intro @q0g hti2)) ?_
       exact ⟨cI (by omega), Nat.le_refl _⟩
     · have q4 : (y.kd != 4) = true := by simpa using h4
       have hbad : (l.any fun y => y.kd != 4) = true := List.any_eq_true.2 ⟨y, List.mem_of_getElem? hy, q4⟩
       have he : e = 30 := by
        rcases hcs with ⟨h, h2⟩ | ⟨h, _⟩ | ⟨_, _, h, _⟩ | ⟨_, _, h, _⟩
        · exact h
        · exact h
        · rw [hbad] at h; simp at h
        · rw [hbad] at h; simp at h
       subst he
       refine q0f (And.intro hyp q4) ?_
       refine retX Tryz.results136 ?_
       exact ⟨.nil 1, .c _⟩
   · have hie : i = l.length := by simp at hc; omega
     subst hie
     have han2 := han
     rw [List.take_length] at han2
     have he : e = 3 ∧ 40 < l.length := by
      rcases hcs with ⟨h, h2⟩ | ⟨_, _, h⟩ | ⟨h, _, _, h2⟩ | ⟨h, _⟩
      · exact absurd rfl h2
      · rw [han2] at h; simp at h
      · exact ⟨h, h2⟩
      · exact absurd h hne
     have hgt : decide ((l.length : Int) > 40) = true := by have := he.2; simp; omega
     rw [he.1]
     refine q0f (And.intro @q0a (And.intro hti hgt)) ?_
     refine retX Tryz.results136 ?_
     exact ⟨.nil 1, .c _⟩
 · have hq : (x1 != 5) = true := by simpa using hk
   have he : e = 30 := by
    rcases hcs with ⟨h, _⟩ | ⟨h, _⟩ | ⟨_, h, _⟩ | ⟨_, h, _⟩
    · exact h
    · exact h
    · exact absurd h hk
    · exact absurd h hk
   subst he
   refine VC.toldP j4c Tryz.func136 rfl Tryz.ntmps136 fun hb => ?_
   clear hb
   refine q0f (hq) ?_
   refine retX Tryz.results136 ?_
   exact ⟨.nil 1, .c _⟩
/-- A list's texts. -/
theorem z2b (x : JT) (hz : q2u 0 x = 0) : Told Tryz.prog 136 [x.av] (.tup [.c (.sl 1 ((x.its.map JT.txt).map sPV)), .c (.v (.int .i64 0))]) := by
 have hcs : x.kd = 5 ∧ (x.its.any fun y => y.kd != 4) = false ∧ x.its.length ≤ 40 := by
  rcases j76 x with ⟨h, _⟩ | ⟨h, _⟩ | ⟨h, _⟩ | ⟨_, h⟩
  · rw [hz] at h; simp at h
  · rw [hz] at h; simp at h
  · rw [hz] at h; simp at h
  · exact h
 clear hz
 obtain ⟨h5, han, h40⟩ := hcs
 rw [JT.av_eq, q0m]
 generalize x.kd = x1 at *
 generalize x.num = x2 at *
 generalize x.txt = x3 at *
 generalize x.its = l at *
 generalize x.keys = x5 at *
 subst h5
 refine VC.toldP j4c Tryz.func136 rfl Tryz.ntmps136 fun hb => ?_
 clear hb
 refine q0u ?_
 refine VC.nil 4 9 1 (by rfl) (by trivial) (by rfl) ?_
 refine VC.loop (ι := {i : Nat // i ≤ l.length}) (fun q => [(1, .ref 0 1 0 0), (4, .row 64 q.1), (5, .c (.v (.int .i64 (q.1 : Int))))])
  (fun q => [(0, ⟨false, 25, 5, [[.c (.v (.int .i64 5)), .c (.v (.int .i64 x2)), .c (.v (.string (str x3))), .c (.sl 5 (l.map JT.cells)), .c (.sl 1 (x5.map sPV))]]⟩), (64, ⟨true, 9, 1, rA sPV ((l.take q.1).map JT.txt)⟩)]) 800 (fun q => l.length - q.1) ⟨0, Nat.zero_le _⟩ ?_ ?_
 · exact q6e (And.intro @q32 (And.intro @q0a @q0g))
 rintro ⟨i, hi⟩
 simp only []
 have hti : ((l.take i).map JT.txt).length = i := by simp; omega
 refine q0c ?_
 refine VC.cond (by rfl) (by trivial) (fun hc => ?_) (fun hc => ?_)
 · have hlt : i < l.length := by simp at hc; omega
   obtain ⟨y, hy⟩ : ∃ y, l[i]? = some y := ⟨l[i], List.getElem?_eq_getElem hlt⟩
   have hyp : (l.map JT.cells)[i]? = some [.v (.int .i64 y.kd), .v (.int .i64 y.num), .v (.string (str y.txt)), .sl 5 (y.its.map JT.cells), .sl 1 (y.keys.map sPV)] := by rw [List.getElem?_map, hy, ← q0m]; rfl
   have hw : IntKind.i64.wrap ((i : Int) + 1) = (i : Int) + 1 := q0w (by omega) (by omega)
   have hap := j5o hy
   have hti2 : ((l.take (i + 1)).map JT.txt).length = i + 1 := by simp; omega
   have q4 : (y.kd != 4) = false := by simpa using any_at han hy
   refine q0f (And.intro hyp (And.intro q4 (And.intro @q0a (And.intro hti (And.intro hap hw))))) ?_
   refine .next ⟨i + 1, by omega⟩ ?_ (by simp only []; omega)
   refine q1l (And.intro @q0a (And.intro @q0g hti2)) ?_
   exact ⟨cI (by omega), Nat.le_refl _⟩
 · have hie : i = l.length := by simp at hc; omega
   subst hie
   rw [List.take_length] at *
   have hgt : decide ((l.length : Int) > 40) = false := by simp; omega
   refine q0f (And.intro @q0a (And.intro hti hgt)) ?_
   refine retX Tryz.results136 ?_
   exact ⟨q43 (f := sPV) (T := 9) rfl (by rw [List.length_map]) rfl fun x _ => rfl, .c _⟩
/-- A list's texts, a row that the caller may write. -/
theorem z6r (x : JT) (hz : q2u 0 x = 0) : ToldM Tryz.prog 136 [x.av] [] [some ⟨true, 9, 1, rA sPV (x.its.map JT.txt)⟩] (.tup [.row 1000000 x.its.length, .c (.v (.int .i64 0))]) := by
 have hcs : x.kd = 5 ∧ (x.its.any fun y => y.kd != 4) = false ∧ x.its.length ≤ 40 := by
  rcases j76 x with ⟨h, _⟩ | ⟨h, _⟩ | ⟨h, _⟩ | ⟨_, h⟩
  · rw [hz] at h; simp at h
  · rw [hz] at h; simp at h
  · rw [hz] at h; simp at h
  · exact h
 clear hz
 obtain ⟨h5, han, h40⟩ := hcs
 rw [JT.av_eq, q0m]
 generalize x.kd = x1 at *
 generalize x.num = x2 at *
 generalize x.txt = x3 at *
 generalize x.its = l at *
 generalize x.keys = x5 at *
 subst h5
 have hln : (rA sPV (l.map JT.txt)).length = l.length := by rw [q0a, List.length_map]
 refine VC.toldXF (And.intro @q0a (And.intro @q0g hln)) j4c [64] Tryz.func136 rfl Tryz.ntmps136 fun hb hbL => ?_
 clear hb hbL
 refine q0u ?_
 refine VC.nil 4 9 1 (by rfl) (by trivial) (by rfl) ?_
 refine VC.loop (ι := {i : Nat // i ≤ l.length}) (fun q => [(1, .ref 0 1 0 0), (4, .row 64 q.1), (5, .c (.v (.int .i64 (q.1 : Int))))])
  (fun q => [(0, ⟨false, 25, 5, [[.c (.v (.int .i64 5)), .c (.v (.int .i64 x2)), .c (.v (.string (str x3))), .c (.sl 5 (l.map JT.cells)), .c (.sl 1 (x5.map sPV))]]⟩), (64, ⟨true, 9, 1, rA sPV ((l.take q.1).map JT.txt)⟩)]) 800 (fun q => l.length - q.1) ⟨0, Nat.zero_le _⟩ ?_ ?_
 · exact q6e (And.intro @q32 (And.intro @q0a @q0g))
 rintro ⟨i, hi⟩
 simp only []
 have hti : ((l.take i).map JT.txt).length = i := by simp; omega
 refine q0c ?_
 refine VC.cond (by rfl) (by trivial) (fun hc => ?_) (fun hc => ?_)
 · have hlt : i < l.length := by simp at hc; omega
   obtain ⟨y, hy⟩ : ∃ y, l[i]? = some y := ⟨l[i], List.getElem?_eq_getElem hlt⟩
   have hyp : (l.map JT.cells)[i]? = some [.v (.int .i64 y.kd), .v (.int .i64 y.num), .v (.string (str y.txt)), .sl 5 (y.its.map JT.cells), .sl 1 (y.keys.map sPV)] := by rw [List.getElem?_map, hy, ← q0m]; rfl
   have hw : IntKind.i64.wrap ((i : Int) + 1) = (i : Int) + 1 := q0w (by omega) (by omega)
   have hap := j5o hy
   have hti2 : ((l.take (i + 1)).map JT.txt).length = i + 1 := by simp; omega
   have q4 : (y.kd != 4) = false := by simpa using any_at han hy
   refine q0f (And.intro hyp (And.intro q4 (And.intro @q0a (And.intro hti (And.intro hap hw))))) ?_
   refine .next ⟨i + 1, by omega⟩ ?_ (by simp only []; omega)
   refine q1l (And.intro @q0a (And.intro @q0g hti2)) ?_
   exact ⟨cI (by omega), Nat.le_refl _⟩
 · have hie : i = l.length := by simp at hc; omega
   subst hie
   rw [List.take_length] at *
   have hgt : decide ((l.length : Int) > 40) = false := by simp; omega
   refine q0f (And.intro @q0a (And.intro hti hgt)) ?_
   refine q0j (@q0b) Tryz.results136 ?_
   exact ⟨.keepW rfl, .c _⟩
def aliR (e : Int) (l : List (List UInt8)) : AV := .tup [.c (.sl 1 ((if e = 0 then l else []).map sPV)), .c (.v (.int .i64 e))]
theorem any_ok {ok : List UInt8 → Bool} {l : List (List UInt8)} {i : Nat} {s : List UInt8} (hs : l[i]? = some s) (h : ok s = false) : (l.any fun s => !ok s) = true := List.any_eq_true.2 ⟨s, List.mem_of_getElem? hs, by rw [h]; rfl⟩
theorem take_ok {ok : List UInt8 → Bool} {l : List (List UInt8)} {i : Nat} {s : List UInt8} (hs : l[i]? = some s) (ha : ((l.take i).any fun s => !ok s) = false) (h : ok s = true) : ((l.take (i + 1)).any fun s => !ok s) = false := by
 rw [List.take_add_one, hs, List.any_append, ha]
 simp [h]
/-- A field's other names. -/
theorem z5u (j : JT) (hl : (gt j q0z).its.length ≤ 1000000) (hx : ∀ x ∈ (gt j q0z).its, x.txt.length ≤ 1000000) (sp : List UInt8) : Told Tryz.prog 133 [j.av, .c (.v (.string (str sp))), .c (.v (.bool true))] (aliR (q2z 0 j q1h) (q3i j id)) := by
 have hG := q4k j q0z
 have hno := j7t (gt j q0z) hl
 have hyes := z2b (gt j q0z)
 unfold aliR q2z q3i
 rw [show (jget j q0z).getD zJ = gt j q0z from rfl] at hG
 have hx' : ∀ s ∈ (gt j q0z).its.map JT.txt, s.length ≤ 1000000 := fun s hs => by
  obtain ⟨x, h1, rfl⟩ := List.mem_map.1 hs
  exact hx x h1
 have hl' : ((gt j q0z).its.map JT.txt).length ≤ 1000000 := by rw [List.length_map]; exact hl
 clear hx hl
 generalize (jget j q0z).isSome = b at hG ⊢
 generalize q2u 0 (gt j q0z) = e1 at *
 generalize (gt j q0z).its.map JT.txt = l at *
 generalize gt j q0z = x at *
 rw [JT.av_eq x, q0m x] at hG hno hyes
 rw [JT.av_eq, q0m] at hG ⊢
 generalize j.kd = j1 at *
 generalize j.num = j2 at *
 generalize j.txt = j3 at *
 generalize j.its = j4 at *
 generalize j.keys = j5 at *
 generalize x.kd = x1 at *
 generalize x.num = x2 at *
 generalize x.txt = x3 at *
 generalize x.its = x4 at *
 generalize x.keys = x5 at *
 rw [q0z, q2h [97, 108, 105, 97, 115, 101, 115]] at hG
 cases b with
 | false =>
   simp only [Bool.false_eq_true, if_false, if_true, List.map_nil]
   refine VC.toldP j16 Tryz.func133 rfl Tryz.ntmps133 fun hb => ?_
   clear hb
   refine q0c ?_
   refine q0e (hG) ?_
   refine q0u ?_
   refine retX Tryz.results133 ?_
   exact ⟨.nil 1, .c _⟩
 | true =>
   simp only [if_true]
   by_cases he1 : e1 = 0
   rotate_left
   · have q1 : (e1 != 0) = true := by simpa using he1
     rw [q1i _ _ _ he1, if_neg he1]
     replace hno := hno he1
     refine VC.toldP j16 Tryz.func133 rfl Tryz.ntmps133 fun hb => ?_
     clear hb
     refine q0c ?_
     refine q0e (hG) ?_
     refine q0u ?_
     refine q0e (hno) ?_
     refine q0f (q1) ?_
     refine retX Tryz.results133 ?_
     exact ⟨.nil 1, .c _⟩
   subst he1
   replace hyes := hyes rfl
   clear hno
   obtain ⟨E, hE⟩ : ∃ E, E = fl 0 (l.any fun s => !q1h s) 31 := ⟨_, rfl⟩
   rw [← hE, List.map_id]
   refine VC.toldP j16 Tryz.func133 rfl Tryz.ntmps133 fun hb => ?_
   clear hb
   refine q0c ?_
   refine q0e (hG) ?_
   refine q0u ?_
   refine q0e (hyes) ?_
   refine q0u ?_
   refine VC.loop (ι := {i : Nat // i ≤ l.length ∧ ((l.take i).any fun s => !q1h s) = false}) (fun q => [(2, .c (.v (.bool true))), (10, .c (.sl 1 (l.map sPV))), (12, .c (.v (.int .i64 (q.1 : Int))))]) (fun q => []) 2000 (fun q => l.length - q.1) ⟨0, Nat.zero_le _, rfl⟩ ?_ ?_
   · simp only [Weak, eq_self, q09, q03, sc_c, q05, q06, q07, q02, q04, ScL, q08, List.forall_mem_map, go_sem, Int.reduceBEq, Int.reduceLE, Int.reduceLT, Int.reduceNeg, Nat.reduceAdd, Nat.reduceEqDiff, Nat.reduceLT, Nat.reduceLeDiff, Nat.reduceMul, Nat.reduceSub, reduceCtorEq, ↓reduceIte]
     all_goals rfl
   rintro ⟨i, hi, han⟩
   simp only []
   refine q0c ?_
   refine VC.cond (by rfl) (by trivial) (fun hc => ?_) (fun hc => ?_)
   · have hlt : i < l.length := by simp at hc; omega
     obtain ⟨s, hs⟩ : ∃ s, l[i]? = some s := ⟨l[i], List.getElem?_eq_getElem hlt⟩
     have hsp : (l.map sPV)[i]? = some [.v (.string (str s))] := by rw [List.getElem?_map, hs]; rfl
     have hw : IntKind.i64.wrap ((i : Int) + 1) = (i : Int) + 1 := q0w (by omega) (by omega)
     have hS := q86 s (by have := hx' s (List.mem_of_getElem? hs); omega)
     refine q0d (hsp) ?_
     cases hok : q1h s with
     | true =>
       rw [hok] at hS
       refine q0e (hS) ?_
       refine q0f (hw) ?_
       refine .next ⟨i + 1, by omega, take_ok hs han hok⟩ ?_ (by simp only []; omega)
       refine q4q ?_
       exact cI (by omega)
     | false =>
       rw [hok] at hS
       rw [any_ok hs hok, fl_t] at hE
       subst hE
       rw [if_neg (by decide)]
       refine q0e (hS) ?_
       refine q0u ?_
       refine retX Tryz.results133 ?_
       exact ⟨.nil 1, .c _⟩
   · have hie : i = l.length := by simp at hc; omega
     subst hie
     rw [List.take_length] at han
     rw [han, fl_f] at hE
     subst hE
     rw [if_pos rfl]
     refine q0c ?_
     refine retX Tryz.results133 ?_
     exact ⟨.c _, .c _⟩
/-- A named type's other names, in full. -/
theorem z5v (j : JT) (hl : (gt j q0z).its.length ≤ 1000000) (sp : List UInt8) (hsp : sp.length ≤ 100000000) (hx : ∀ x ∈ (gt j q0z).its, x.txt.length ≤ 100000000) : Told Tryz.prog 133 [j.av, .c (.v (.string (str sp))), .c (.v (.bool false))] (aliR (q2z 0 j fun s => (q1e sp s).isSome) (q3i j fun s => (q1e sp s).getD [])) := by
 have hG := q4k j q0z
 have hno := j7t (gt j q0z) hl
 have hyes := z6r (gt j q0z)
 unfold aliR q2z q3i
 rw [show (jget j q0z).getD zJ = gt j q0z from rfl] at hG
 have hx' : ∀ s ∈ (gt j q0z).its.map JT.txt, s.length ≤ 100000000 := fun s hs => by
  obtain ⟨x, h1, rfl⟩ := List.mem_map.1 hs
  exact hx x h1
 have hl' : ((gt j q0z).its.map JT.txt).length ≤ 1000000 := by rw [List.length_map]; exact hl
 rw [show (gt j q0z).its.length = ((gt j q0z).its.map JT.txt).length by rw [List.length_map]] at hyes
 clear hx hl
 generalize (jget j q0z).isSome = b at hG ⊢
 generalize q2u 0 (gt j q0z) = e1 at *
 generalize (gt j q0z).its.map JT.txt = l at *
 generalize gt j q0z = x at *
 rw [JT.av_eq x, q0m x] at hG hno hyes
 rw [JT.av_eq, q0m] at hG ⊢
 generalize j.kd = j1 at *
 generalize j.num = j2 at *
 generalize j.txt = j3 at *
 generalize j.its = j4 at *
 generalize j.keys = j5 at *
 generalize x.kd = x1 at *
 generalize x.num = x2 at *
 generalize x.txt = x3 at *
 generalize x.its = x4 at *
 generalize x.keys = x5 at *
 rw [q0z, q2h [97, 108, 105, 97, 115, 101, 115]] at hG
 cases b with
 | false =>
   simp only [Bool.false_eq_true, if_false, if_true, List.map_nil]
   refine VC.toldP j16 Tryz.func133 rfl Tryz.ntmps133 fun hb => ?_
   clear hb
   refine q0c ?_
   refine q0e (hG) ?_
   refine q0u ?_
   refine retX Tryz.results133 ?_
   exact ⟨.nil 1, .c _⟩
 | true =>
   simp only [if_true]
   by_cases he1 : e1 = 0
   rotate_left
   · have q1 : (e1 != 0) = true := by simpa using he1
     rw [q1i _ _ _ he1, if_neg he1]
     replace hno := hno he1
     refine VC.toldP j16 Tryz.func133 rfl Tryz.ntmps133 fun hb => ?_
     clear hb
     refine q0c ?_
     refine q0e (hG) ?_
     refine q0u ?_
     refine q0e (hno) ?_
     refine q0f (q1) ?_
     refine retX Tryz.results133 ?_
     exact ⟨.nil 1, .c _⟩
   subst he1
   replace hyes := hyes rfl
   clear hno
   obtain ⟨v, hv⟩ : ∃ v : List UInt8 → List UInt8, v = fun s => (q1e sp s).getD [] := ⟨_, rfl⟩
   obtain ⟨E, hE⟩ : ∃ E, E = fl 0 (l.any fun s => !(q1e sp s).isSome) 31 := ⟨_, rfl⟩
   rw [← hE, ← hv]
   refine VC.toldP j16 Tryz.func133 rfl Tryz.ntmps133 fun hb => ?_
   clear hb
   refine q0c ?_
   refine q0e (hG) ?_
   refine q0u ?_
   refine q0i (And.intro @q0a @q0b) [] (hyes) ?_
   refine q0u ?_
   refine VC.loop (ι := {i : Nat // i ≤ l.length ∧ ((l.take i).any fun s => !(q1e sp s).isSome) = false}) (fun q => [(1, .c (.v (.string (str sp)))), (2, .c (.v (.bool false))), (10, .row 112 l.length), (12, .c (.v (.int .i64 (q.1 : Int))))])
    (fun q => [(112, ⟨true, 9, 1, rA sPV ((l.take q.1).map v ++ l.drop q.1)⟩)]) 2000 (fun q => l.length - q.1) ⟨0, Nat.zero_le _, rfl⟩ ?_ ?_
   · refine q1l (And.intro @q0a (And.intro @q0g @q0b)) ?_
     exact Nat.le_refl _
   rintro ⟨i, hi, han⟩
   simp only []
   have hll : ((l.take i).map v ++ l.drop i).length = l.length := by simp; omega
   refine q0d (And.intro @q0a hll) ?_
   refine VC.cond (by rfl) (by trivial) (fun hc => ?_) (fun hc => ?_)
   · have hlt : i < l.length := by simp at hc; omega
     obtain ⟨s, hs⟩ : ∃ s, l[i]? = some s := ⟨l[i], List.getElem?_eq_getElem hlt⟩
     have hat : (rA sPV ((l.take i).map v ++ l.drop i))[i]? = some [.c (.v (.string (str s)))] := by
      refine q4j ?_
      rw [List.getElem?_append_right (by simp; omega)]
      simp
      rw [show i - min i l.length = 0 by omega, Nat.add_zero]
      exact hs
     have hset : (rA sPV ((l.take i).map v ++ l.drop i)).set i [.c (.v (.string (str (v s))))] = rA sPV ((l.take (i + 1)).map v ++ l.drop (i + 1)) := by
      have h := q69 (f := sPV) ((l.take i).map v ++ l.drop i) i (v s)
      rw [show ((l.take i).map v ++ l.drop i).set i (v s) = (l.take (i + 1)).map v ++ l.drop (i + 1) from ?_] at h
      · simp only [sPV, List.map_cons, List.map_nil] at h
        exact h
      · obtain ⟨h5, h6⟩ := List.getElem?_eq_some_iff.1 hs
        rw [List.set_append_right _ _ (by simp; omega), List.drop_eq_getElem_cons h5, h6, List.take_add_one, hs]
        simp [show i - min i l.length = 0 by omega]
     have hll2 : ((l.take (i + 1)).map v ++ l.drop (i + 1)).length = l.length := by simp; omega
     have hw : IntKind.i64.wrap ((i : Int) + 1) = (i : Int) + 1 := q0w (by omega) (by omega)
     have hJ := j7p sp s hsp (hx' s (List.mem_of_getElem? hs))
     unfold q5c at hJ
     have hvs : (q1e sp s).getD [] = v s := by rw [hv]
     rw [hvs] at hJ
     refine q0f (And.intro @q0a (And.intro hll hat)) ?_
     cases hok : (q1e sp s).isSome with
     | true =>
       rw [hok] at hJ
       refine q0e (hJ) ?_
       refine q0f (And.intro @q0a (And.intro hll (And.intro hat (And.intro hset hw)))) ?_
       refine .next ⟨i + 1, by omega, take_ok (ok := fun s => (q1e sp s).isSome) hs han hok⟩ ?_ (by simp only []; omega)
       refine q1l (And.intro @q0a (And.intro @q0g (And.intro @q0b hll2))) ?_
       exact ⟨cI (by omega), Nat.le_refl _⟩
     | false =>
       rw [hok] at hJ
       rw [any_ok (ok := fun s => (q1e sp s).isSome) hs hok, fl_t] at hE
       subst hE
       rw [if_neg (by decide)]
       refine q0e (hJ) ?_
       refine q0u ?_
       refine retX Tryz.results133 ?_
       exact ⟨.nil 1, .c _⟩
   · have hie : i = l.length := by simp at hc; omega
     subst hie
     rw [List.take_length] at han
     rw [han, fl_f] at hE
     subst hE
     have hX : (l.take l.length).map v ++ l.drop l.length = l.map v := by simp
     rw [if_pos rfl]
     refine q0c ?_
     refine retX Tryz.results133 ?_
     rw [← hX]
     exact ⟨q43 (f := sPV) (T := 9) rfl (by simp) rfl fun x _ => rfl, .c _⟩

theorem hs_len (es : List EN) : (hsE es).length = es.length := by rw [hsE, List.length_map]
theorem q71 (es : List EN) (f : List UInt8) {h : Nat → Option Blkd} (hB : h 1000001 = some ⟨true, 40, 10, rA EN.cells es⟩) {k : Nat} {x z : AV}
  (h5 : ([.agg [.row 1000001 es.length, .c (.v (.int .i64 0))], .c (.v (.string (str f)))] : List AV)[k]? = some x) (h6 : ([.agg [.c (.sl 10 (es.map EN.cells)), .c (.v (.int .i64 0))], .c (.v (.string (str f)))] : List AV)[k]? = some z) : View h x z := by
 match k with
 | 0 =>
   obtain rfl := Option.some.inj h5
   obtain rfl := Option.some.inj h6
   refine View.agg rfl fun k x z h7 h8 => ?_
   match k with
   | 0 =>
     obtain rfl := Option.some.inj h7
     obtain rfl := Option.some.inj h8
     exact View.row (B := ⟨true, 40, 10, rA EN.cells es⟩) (es := es.map EN.cells) hB rfl (q0a _ _) (q4p _ _)
   | 1 =>
     obtain rfl := Option.some.inj h7
     obtain rfl := Option.some.inj h8
     exact .same _
   | k + 2 => simp at h7
 | 1 =>
   obtain rfl := Option.some.inj h5
   obtain rfl := Option.some.inj h6
   exact .same _
 | k + 2 => simp at h5
theorem j48 (es : List EN) (hl : es.length ≤ 200) (k : Int) : RT 128 es [.agg [.c (.v (.int .i64 k)), .c (.v (.string ⟨#[]⟩)), .c (.v (.slice none 0 0)), .c (.v (.slice none 0 0)), .c (.v (.slice none 0 0)), .c (.v (.bool false)), .c (.v (.string ⟨#[]⟩)), .c (.v (.int .i64 0)), .c (.v (.int .i64 0)), .c (.v (.slice none 0 0))]] (q3k (hsE es) (q1g k)) :=
 (j49 es hl (q1g k)).co (.cons (j55 k) .nil)
theorem z2k (es : List EN) (hl : es.length ≤ 200) (w a : List UInt8) (h1 : w.length ≤ 1000000) (h2 : a.length ≤ 1000000) : RT 75 es [.c (.v (.string (str w))), .c (.v (.string (str a)))] (q5h (hsE es) w a) := by
 have hKd := q7c w
 have hJ := j7p a w (by omega) (by omega)
 unfold q5c at hJ
 unfold q5h
 by_cases hk : 1 ≤ q0h w ∧ q0h w ≤ 8
 · rw [if_pos hk]
   have hFr := j48 es hl (q0h w)
   have hg1 : decide ((q0h w : Int) ≥ 1) = true := by simp; omega
   have hg2 : decide ((q0h w : Int) ≤ 8) = true := by simp; omega
   generalize q3k (hsE es) (q1g (q0h w)) = B at *
   generalize (q0h w : Int) = k at *
   refine ⟨fun new p h => ?_, fun e h => ?_⟩
   · have hY := hFr.yes new p h
     generalize es ++ new.map EN.of = es' at *
     unfold xS xN at hY ⊢
     refine VC.toldXF (And.intro @q0a @q0g) q7m [] Tryz.func75 rfl Tryz.ntmps75 fun hb hbL => ?_
     clear hb hbL
     refine q0c ?_
     refine q0e (hKd) ?_
     refine q0f (And.intro hg1 hg2) ?_
     refine q0i (And.intro @q0a @q0b) [1000000, 1000001] (hY) ?_
     refine q0d (And.intro @q0a @q0b) ?_
     refine q0j (@q0b) Tryz.results75 ?_
     exact ⟨.c _, .c _⟩
   · have hY := hFr.no e h
     unfold xS xN at hY ⊢
     refine VC.toldXF (And.intro @q0a @q0g) q7m [] Tryz.func75 rfl Tryz.ntmps75 fun hb hbL => ?_
     clear hb hbL
     refine q0c ?_
     refine q0e (hKd) ?_
     refine q0f (And.intro hg1 hg2) ?_
     refine q0i (And.intro @q0a @q0b) [1000000, 1000001] (hY) ?_
     refine q0d (And.intro @q0a @q0b) ?_
     refine q0j (@q0b) Tryz.results75 ?_
     exact ⟨.c _, .c _⟩
 rw [if_neg hk]
 have hF := z1z es (by omega) 0 ((q1e a w).getD [])
 obtain ⟨q, hq⟩ : ∃ q, q = (decide ((q0h w : Int) ≥ 1) && decide ((q0h w : Int) ≤ 8)) := ⟨_, rfl⟩
 have hqf : q = false := by
  rw [hq]
  simp
  omega
 have hkk : decide ((q0h w : Int) ≥ 1) = false ∨ (decide ((q0h w : Int) ≥ 1) = true ∧ decide ((q0h w : Int) ≤ 8) = false) := by
  simp
  omega
 clear hq hqf hk
 generalize (q0h w : Int) = k at *
 cases hjn : q1e a w with
 | none =>
   rw [hjn] at hJ
   simp only [Option.getD_none, Option.isSome_none] at hJ
   refine ⟨fun new p h => by simp at h, fun e h => ?_⟩
   injection h with h
   subst h
   unfold xS xN
   rcases hkk with g1 | ⟨g1, g2⟩
   · refine VC.toldXF (And.intro @q0a @q0g) q7m [] Tryz.func75 rfl Tryz.ntmps75 fun hb hbL => ?_
     clear hb hbL
     refine q0c ?_
     refine q0e (hKd) ?_
     refine q0f (g1) ?_
     refine q0e (hJ) ?_
     refine q0u ?_
     refine q0j (@q0b) Tryz.results75 ?_
     exact ⟨.c _, .c _⟩
   · refine VC.toldXF (And.intro @q0a @q0g) q7m [] Tryz.func75 rfl Tryz.ntmps75 fun hb hbL => ?_
     clear hb hbL
     refine q0c ?_
     refine q0e (hKd) ?_
     refine q0f (And.intro g1 g2) ?_
     refine q0e (hJ) ?_
     refine q0u ?_
     refine q0j (@q0b) Tryz.results75 ?_
     exact ⟨.c _, .c _⟩
 | some f =>
   rw [hjn] at hJ hF
   simp only [Option.getD_some, Option.isSome_some] at hJ hF ⊢
   generalize q19 (hsE es) f = at' at *
   by_cases hd : at' < 0
   · rw [if_pos hd]
     have q2 : decide (at' < 0) = true := by simpa using hd
     refine ⟨fun new p h => by simp at h, fun e h => ?_⟩
     injection h with h
     subst h
     unfold xS xN
     rcases hkk with g1 | ⟨g1, g2⟩
     · refine VC.toldXF (And.intro @q0a @q0g) q7m [] Tryz.func75 rfl Tryz.ntmps75 fun hb hbL => ?_
       clear hb hbL
       refine q0c ?_
       refine q0e (hKd) ?_
       refine q0f (g1) ?_
       refine q0e (hJ) ?_
       refine q0f (@q0a) ?_
       (refine AO.step fun K hK => ?_; simp only [go_sem, Int.reduceBEq, Int.reduceLE, Int.reduceLT, Int.reduceNeg, Nat.reduceAdd, Nat.reduceEqDiff, Nat.reduceLT, Nat.reduceLeDiff, Nat.reduceMul, Nat.reduceSub, reduceCtorEq, ↓reduceIte]; (first | refine q1m ?_ | skip))
       refine .inr (.inl ⟨_, [.agg [.c (.sl 10 (es.map EN.cells)), .c (.v (.int .i64 0))], .c (.v (.string (str f)))], [1000001], ⟨by rfl, by rfl, fun k x z h5 h6 => ?_, by rfl, hF⟩, hK _ _ _ ?_⟩)
       · exact q71 es f (by simp [q0b]) h5 h6
       clear hK K
       refine q0f (And.intro @q0a (And.intro @q0b q2)) ?_
       refine q0j (@q0b) Tryz.results75 ?_
       exact ⟨.c _, .c _⟩
     · refine VC.toldXF (And.intro @q0a @q0g) q7m [] Tryz.func75 rfl Tryz.ntmps75 fun hb hbL => ?_
       clear hb hbL
       refine q0c ?_
       refine q0e (hKd) ?_
       refine q0f (And.intro g1 g2) ?_
       refine q0e (hJ) ?_
       refine q0f (@q0a) ?_
       (refine AO.step fun K hK => ?_; simp only [go_sem, Int.reduceBEq, Int.reduceLE, Int.reduceLT, Int.reduceNeg, Nat.reduceAdd, Nat.reduceEqDiff, Nat.reduceLT, Nat.reduceLeDiff, Nat.reduceMul, Nat.reduceSub, reduceCtorEq, ↓reduceIte]; (first | refine q1m ?_ | skip))
       refine .inr (.inl ⟨_, [.agg [.c (.sl 10 (es.map EN.cells)), .c (.v (.int .i64 0))], .c (.v (.string (str f)))], [1000001], ⟨by rfl, by rfl, fun k x z h5 h6 => ?_, by rfl, hF⟩, hK _ _ _ ?_⟩)
       · exact q71 es f (by simp [q0b]) h5 h6
       clear hK K
       refine q0f (And.intro @q0a (And.intro @q0b q2)) ?_
       refine q0j (@q0b) Tryz.results75 ?_
       exact ⟨.c _, .c _⟩
   · rw [if_neg hd]
     have q2 : decide (at' < 0) = false := by simpa using hd
     refine ⟨fun new p h => ?_, fun e h => by simp at h⟩
     injection h with h
     injection h with h3 h4
     subst h3 h4
     simp only [List.map_nil, List.append_nil]
     unfold xS xN
     rcases hkk with g1 | ⟨g1, g2⟩
     · refine VC.toldXF (And.intro @q0a @q0g) q7m [] Tryz.func75 rfl Tryz.ntmps75 fun hb hbL => ?_
       clear hb hbL
       refine q0c ?_
       refine q0e (hKd) ?_
       refine q0f (g1) ?_
       refine q0e (hJ) ?_
       refine q0f (@q0a) ?_
       (refine AO.step fun K hK => ?_; simp only [go_sem, Int.reduceBEq, Int.reduceLE, Int.reduceLT, Int.reduceNeg, Nat.reduceAdd, Nat.reduceEqDiff, Nat.reduceLT, Nat.reduceLeDiff, Nat.reduceMul, Nat.reduceSub, reduceCtorEq, ↓reduceIte]; (first | refine q1m ?_ | skip))
       refine .inr (.inl ⟨_, [.agg [.c (.sl 10 (es.map EN.cells)), .c (.v (.int .i64 0))], .c (.v (.string (str f)))], [1000001], ⟨by rfl, by rfl, fun k x z h5 h6 => ?_, by rfl, hF⟩, hK _ _ _ ?_⟩)
       · exact q71 es f (by simp [q0b]) h5 h6
       clear hK K
       refine q0f (And.intro @q0a (And.intro @q0b q2)) ?_
       refine q0j (@q0b) Tryz.results75 ?_
       exact ⟨.c _, .c _⟩
     · refine VC.toldXF (And.intro @q0a @q0g) q7m [] Tryz.func75 rfl Tryz.ntmps75 fun hb hbL => ?_
       clear hb hbL
       refine q0c ?_
       refine q0e (hKd) ?_
       refine q0f (And.intro g1 g2) ?_
       refine q0e (hJ) ?_
       refine q0f (@q0a) ?_
       (refine AO.step fun K hK => ?_; simp only [go_sem, Int.reduceBEq, Int.reduceLE, Int.reduceLT, Int.reduceNeg, Nat.reduceAdd, Nat.reduceEqDiff, Nat.reduceLT, Nat.reduceLeDiff, Nat.reduceMul, Nat.reduceSub, reduceCtorEq, ↓reduceIte]; (first | refine q1m ?_ | skip))
       refine .inr (.inl ⟨_, [.agg [.c (.sl 10 (es.map EN.cells)), .c (.v (.int .i64 0))], .c (.v (.string (str f)))], [1000001], ⟨by rfl, by rfl, fun k x z h5 h6 => ?_, by rfl, hF⟩, hK _ _ _ ?_⟩)
       · exact q71 es f (by simp [q0b]) h5 h6
       clear hK K
       refine q0f (And.intro @q0a (And.intro @q0b q2)) ?_
       refine q0j (@q0b) Tryz.results75 ?_
       exact ⟨.c _, .c _⟩
theorem rfixed_rt (es : List EN) (hl : es.length ≤ 200) (j : JT) (n : NT) : RT 84 es [j.av, (EN.of n).av] (q7n (hsE es) j n) := by
 have hG := q4k j q1z
 have hFr := j49 es hl { n with size := (gt j q1z).num }
 unfold q7n
 rw [show (jget j q1z).getD q39 = gt j q1z from rfl]
 rw [show (jget j q1z).getD zJ = gt j q1z from rfl] at hG
 generalize (jget j q1z).isSome = b at hG
 generalize gt j q1z = x at *
 generalize q3k (hsE es) { n with size := x.num } = B at *
 rw [EN.av_eq, q68] at hFr ⊢
 simp only [] at hFr
 rw [JT.av_eq x, q0m x] at hG
 rw [JT.av_eq j, q0m j] at *
 generalize j.kd = j1 at *
 generalize j.num = j2 at *
 generalize j.txt = j3 at *
 generalize j.its = j4 at *
 generalize j.keys = j5 at *
 generalize x.kd = x1 at *
 generalize x.num = x2 at *
 generalize x.txt = x3 at *
 generalize x.its = x4 at *
 generalize x.keys = x5 at *
 rw [q1z, q2h [115, 105, 122, 101]] at hG
 by_cases hk : x1 ≠ 3
 · rw [if_pos hk]
   have q1 : (x1 != 3) = true := by simpa using hk
   refine ⟨fun new p h => by simp at h, fun e h => ?_⟩
   injection h with h
   subst h
   unfold xS xN
   refine VC.toldXF (And.intro @q0a @q0g) j29 [] Tryz.func84 rfl Tryz.ntmps84 fun hb hbL => ?_
   clear hb hbL
   refine q0c ?_
   refine q0e (hG) ?_
   refine q0f (q1) ?_
   refine q0j (@q0b) Tryz.results84 ?_
   exact ⟨.c _, .c _⟩
 rw [if_neg hk]
 have q1 : (x1 != 3) = false := by simpa using hk
 by_cases hz : x2 < 0 ∨ 1000 < x2
 · rw [if_pos hz]
   refine ⟨fun new p h => by simp at h, fun e h => ?_⟩
   injection h with h
   subst h
   unfold xS xN
   by_cases h0 : x2 < 0
   · have q2 : decide (x2 < 0) = true := by simpa using h0
     refine VC.toldXF (And.intro @q0a @q0g) j29 [] Tryz.func84 rfl Tryz.ntmps84 fun hb hbL => ?_
     clear hb hbL
     refine q0c ?_
     refine q0e (hG) ?_
     refine q0f (And.intro q1 q2) ?_
     refine q0j (@q0b) Tryz.results84 ?_
     exact ⟨.c _, .c _⟩
   · have q2 : decide (x2 < 0) = false := by simpa using h0
     have q3 : decide (x2 > 1000) = true := by simp; omega
     refine VC.toldXF (And.intro @q0a @q0g) j29 [] Tryz.func84 rfl Tryz.ntmps84 fun hb hbL => ?_
     clear hb hbL
     refine q0c ?_
     refine q0e (hG) ?_
     refine q0f (And.intro q1 (And.intro q2 q3)) ?_
     refine q0j (@q0b) Tryz.results84 ?_
     exact ⟨.c _, .c _⟩
 rw [if_neg hz]
 have q2 : decide (x2 < 0) = false := by simp; omega
 have q3 : decide (x2 > 1000) = false := by simp; omega
 refine ⟨fun new p h => ?_, fun e h => ?_⟩
 · have hY := hFr.yes new p h
   generalize es ++ new.map EN.of = es' at *
   unfold xS xN at hY ⊢
   refine VC.toldXF (And.intro @q0a @q0g) j29 [] Tryz.func84 rfl Tryz.ntmps84 fun hb hbL => ?_
   clear hb hbL
   refine q0c ?_
   refine q0e (hG) ?_
   refine q0f (And.intro q1 (And.intro q2 q3)) ?_
   refine q0i (And.intro @q0a @q0b) [1000000, 1000001] (hY) ?_
   refine q0d (And.intro @q0a @q0b) ?_
   refine q0j (@q0b) Tryz.results84 ?_
   exact ⟨.c _, .c _⟩
 · have hY := hFr.no e h
   unfold xS xN at hY ⊢
   refine VC.toldXF (And.intro @q0a @q0g) j29 [] Tryz.func84 rfl Tryz.ntmps84 fun hb hbL => ?_
   clear hb hbL
   refine q0c ?_
   refine q0e (hG) ?_
   refine q0f (And.intro q1 (And.intro q2 q3)) ?_
   refine q0i (And.intro @q0a @q0b) [1000000, 1000001] (hY) ?_
   refine q0d (And.intro @q0a @q0b) ?_
   refine q0j (@q0b) Tryz.results84 ?_
   exact ⟨.c _, .c _⟩
theorem hsE_app (es : List EN) (n : NT) : hsE (es ++ [EN.of n]) = hsE es ++ [q0p n] := by simp [hsE, EN.of]
theorem z18 (es : List EN) (hl : es.length ≤ 200) (j : JT) (k : Int) (key a : List UInt8) (f : q18) (hErr : ErrB f) (hN : ∀ x, jget j key = some x → ∀ es' : List EN, es'.length ≤ 200 → RT 39 es' [x.av, .c (.v (.string (str a)))] (f (hsE es') x a)) :
  RT 79 es [j.av, .c (.v (.int .i64 k)), .c (.v (.string (str key))), .c (.v (.string (str a)))] (q5o f (hsE es) j k key a) := by
 have hG := q4k j key
 unfold q5o
 cases hx : jget j key with
 | none =>
   rw [hx] at hG
   simp only [Option.getD_none, Option.isSome_none] at hG
   refine ⟨fun new p h => by simp at h, fun e h => ?_⟩
   injection h with h
   subst h
   rw [JT.av_eq zJ, q0m zJ] at hG
   rw [JT.av_eq j, q0m j] at *
   generalize j.kd = j1 at *
   generalize j.num = j2 at *
   generalize j.txt = j3 at *
   generalize j.its = j4 at *
   generalize j.keys = j5 at *
   generalize zJ.kd = x1 at *
   generalize zJ.num = x2 at *
   generalize zJ.txt = x3 at *
   generalize zJ.its = x4 at *
   generalize zJ.keys = x5 at *
   unfold xS xN
   refine VC.toldXF (And.intro @q0a @q0g) j4h [] Tryz.func79 rfl Tryz.ntmps79 fun hb hbL => ?_
   clear hb hbL
   refine q0c ?_
   refine q0e (hG) ?_
   refine q0u ?_
   refine q0j (@q0b) Tryz.results79 ?_
   exact ⟨.c _, .c _⟩
 | some x =>
 replace hN := hN x hx
 rw [hx] at hG
 simp only [Option.getD_some, Option.isSome_some] at hG ⊢
 have hsl := hs_len es
 clear hx
 by_cases h200 : 200 ≤ (hsE es).length
 · rw [if_pos h200]
   have hY := (j48 es hl k).no 3 (by unfold q3k; rw [if_pos h200])
   clear hN
   refine ⟨fun new p h => by simp at h, fun e h => ?_⟩
   injection h with h
   subst h
   rw [JT.av_eq x, q0m x] at hG
   rw [JT.av_eq j, q0m j] at *
   generalize j.kd = j1 at *
   generalize j.num = j2 at *
   generalize j.txt = j3 at *
   generalize j.its = j4 at *
   generalize j.keys = j5 at *
   generalize x.kd = x1 at *
   generalize x.num = x2 at *
   generalize x.txt = x3 at *
   generalize x.its = x4 at *
   generalize x.keys = x5 at *
   unfold xS xN at hY ⊢
   refine VC.toldXF (And.intro @q0a @q0g) j4h [] Tryz.func79 rfl Tryz.ntmps79 fun hb hbL => ?_
   clear hb hbL
   refine q0c ?_
   refine q0e (hG) ?_
   refine q0u ?_
   refine q0i (And.intro @q0a @q0b) [1000000, 1000001] (hY) ?_
   refine q0f (And.intro @q0a @q0b) ?_
   refine q0j (@q0b) Tryz.results79 ?_
   exact ⟨.c _, .c _⟩
 rw [if_neg h200]
 have hY := (j48 es hl k).yes [q1g k] (es.length : Int) (by unfold q3k; rw [if_neg h200, hsl])
 have hlen1 : (es ++ [EN.of (q1g k)]).length = es.length + 1 := by simp
 have hN1 := hN (es ++ [EN.of (q1g k)]) (by rw [hlen1]; omega)
 rw [hsE_app, show q0p (q1g k) = (k, []) from rfl] at hN1
 simp only [List.map_cons, List.map_nil] at hY
 have hErr2 := hErr (hsE es ++ [(k, [])]) x a
 generalize f (hsE es ++ [(k, [])]) x a = B at *
 clear hN
 refine ⟨fun new p h => ?_, fun e h => ?_⟩
 · cases hB : B with
   | error e => rw [hB] at h; simp at h
   | ok V =>
   obtain ⟨m, i⟩ := V
   rw [hB] at h
   simp only [] at h
   injection h with h
   injection h with h3 h4
   subst h3 h4
   have hN2 := hN1.yes m i hB
   rw [hsl]
   obtain ⟨E, hE⟩ : ∃ E, E = (es ++ [EN.of (q1g k)]) ++ m.map EN.of := ⟨_, rfl⟩
   obtain ⟨E', hE'⟩ : ∃ E', E' = es ++ ({ q1g k with items := i } :: m).map EN.of := ⟨_, rfl⟩
   have hlen : E'.length = E.length := by rw [hE, hE']; simp
   have hat : (rA EN.cells E)[es.length]? = some ((EN.of (q1g k)).cells.map .c) := q4j (by rw [hE, List.append_assoc, List.getElem?_append_right (Nat.le_refl _), Nat.sub_self]; rfl)
   have hset : (rA EN.cells E).set es.length ((EN.of { q1g k with items := i }).cells.map .c) = rA EN.cells E' := by
    rw [q69, hE, hE', List.append_assoc, List.set_append_right _ _ (Nat.le_refl _), Nat.sub_self]
    try rfl
   have hEl : es.length < E.length := by rw [hE]; simp
   rw [← hE] at hN2
   rw [← hE']
   clear hE hE' hB hN1
   rw [q68] at hat hset
   simp only [List.map_cons, List.map_nil, q1g] at hat hset
   have h0l : (0 : Int) ≤ (es.length : Int) := by omega
   have hll : (es.length : Int) < (E.length : Int) := by omega
   have hlen1' : ((es ++ [EN.of (q1g k)]).length : Int) = (es.length : Int) + 1 := by rw [hlen1]; omega
   generalize es ++ [EN.of (q1g k)] = E1 at *
   rw [JT.av_eq x, q0m x] at hG hN2
   rw [JT.av_eq j, q0m j] at *
   generalize j.kd = j1 at *
   generalize j.num = j2 at *
   generalize j.txt = j3 at *
   generalize j.its = j4 at *
   generalize j.keys = j5 at *
   generalize x.kd = x1 at *
   generalize x.num = x2 at *
   generalize x.txt = x3 at *
   generalize x.its = x4 at *
   generalize x.keys = x5 at *
   unfold xS xN at hY hN2 ⊢
   refine VC.toldXF (And.intro @q0a @q0g) j4h [] Tryz.func79 rfl Tryz.ntmps79 fun hb hbL => ?_
   clear hb hbL
   refine q0c ?_
   refine q0e (hG) ?_
   refine q0u ?_
   refine q0i (And.intro @q0a @q0b) [1000000, 1000001] (hY) ?_
   refine q0f (And.intro @q0a @q0b) ?_
   refine q0i (And.intro @q0a @q0b) [1000000, 1000001] (hN2) ?_
   refine q0f (And.intro @q0a (And.intro @q0b (And.intro hat (And.intro hset (And.intro h0l (And.intro hll hlen)))))) ?_
   refine q0j (And.intro @q0b hlen) Tryz.results79 ?_
   exact ⟨.c _, .c _⟩
 · cases hB : B with
   | ok V => rw [hB] at h; simp at h
   | error e2 =>
   rw [hB] at h
   injection h with h
   subst h
   have hN2 := hN1.no e2 hB
   have q1 : (e2 != 0) = true := by simpa using hErr2 _ hB
   clear hB hN1
   generalize es ++ [EN.of (q1g k)] = E1 at *
   rw [JT.av_eq x, q0m x] at hG hN2
   rw [JT.av_eq j, q0m j] at *
   generalize j.kd = j1 at *
   generalize j.num = j2 at *
   generalize j.txt = j3 at *
   generalize j.its = j4 at *
   generalize j.keys = j5 at *
   generalize x.kd = x1 at *
   generalize x.num = x2 at *
   generalize x.txt = x3 at *
   generalize x.its = x4 at *
   generalize x.keys = x5 at *
   unfold xS xN at hY hN2 ⊢
   refine VC.toldXF (And.intro @q0a @q0g) j4h [] Tryz.func79 rfl Tryz.ntmps79 fun hb hbL => ?_
   clear hb hbL
   refine q0c ?_
   refine q0e (hG) ?_
   refine q0u ?_
   refine q0i (And.intro @q0a @q0b) [1000000, 1000001] (hY) ?_
   refine q0f (And.intro @q0a @q0b) ?_
   refine q0i (And.intro @q0a @q0b) [1000000, 1000001] (hN2) ?_
   refine q0f (And.intro @q0a (And.intro @q0b q1)) ?_
   refine q0j (@q0b) Tryz.results79 ?_
   exact ⟨.c _, .c _⟩

def LenB (f : q18) : Prop := ∀ hs j a new k, hs.length ≤ 200 → f hs j a = .ok (new, k) → hs.length + new.length ≤ 200 ∧ 0 ≤ k ∧ k < ((hs.length + new.length : Nat) : Int)
theorem z0s (d : Nat) : LenB (q3e d) := fun hs j a new k hl h => by
 have ho := j41 d hs j a new k hl h
 exact ⟨ho.len hl, ho.lt⟩
theorem j2x (x y : Int) : ∀ (used : Nat → Prop) (h : Nat → Option Blkd), Sc used h (.tup [.c (.v (.int .i64 x)), .c (.v (.int .i64 y))]) := fun _ _ => .tup (fun z hz => by
 simp only [List.mem_cons, List.not_mem_nil, or_false] at hz
 rcases hz with rfl | rfl <;> exact .c)
theorem uOpenS {f : FuncId} {args : List AV} {y : AV} (es : List EN) (new : List NT) (ks : List Int) (m : List NT) (hy : ∀ used h, Sc used h y)
  (hT : ∀ E : List EN, E.length = es.length + 1 + new.length → hsE E = hsE es ++ [(13, [])] ++ new.map q0p → ToldM Tryz.prog f args [xS E.length, xN E] [some (xS (E ++ m.map EN.of).length), some (xN (E ++ m.map EN.of))] y) :
  ToldM Tryz.prog f args [xS (es.length + 1 + new.length), xNB (uE es new) es.length uN0 1000002 ks.length, xL ks] [some (xS (es.length + 1 + (new ++ m).length)), some (xNB (uE es (new ++ m)) es.length uN0 1000002 ks.length), some (xL ks)] y := by
 have h := z5p (q5f es new) (xL ks) rfl (j8h ks) (f := f) (args := args) (y := y) (es.length + 1 + new.length) (es.length + 1 + (new ++ m).length) m (by rw [q3b, List.length_append]; omega) hy (fun x => by
  have h1 := hT ((uE es new).set es.length (uN0.wb (.v x))) (by rw [List.length_set, q3b]) (by rw [q8r (q5f es new) (uN0.wb (.v x)) rfl, q79])
  rw [q5q, List.length_set, q3b] at h1
  rw [List.length_append, ← Nat.add_assoc]
  exact h1)
 rw [uE_app, xL_len] at h
 exact h
theorem uNoS {f : FuncId} {args : List AV} {y : AV} (es : List EN) (new : List NT) (ks : List Int) (hy : ∀ used h, Sc used h y)
  (hT : ∀ E : List EN, E.length = es.length + 1 + new.length → hsE E = hsE es ++ [(13, [])] ++ new.map q0p → ToldM Tryz.prog f args [xS E.length, xN E] [none, none] y) :
  ToldM Tryz.prog f args [xS (es.length + 1 + new.length), xNB (uE es new) es.length uN0 1000002 ks.length, xL ks] [none, none, some (xL ks)] y := by
 have h := openS_no (xL ks) rfl (j8h ks) (f := f) (args := args) (y := y) (es := uE es new) (i := es.length) (e0 := uN0) (es.length + 1 + new.length) hy (fun x => by
  have h1 := hT ((uE es new).set es.length (uN0.wb (.v x))) (by rw [List.length_set, q3b]) (by rw [q8r (q5f es new) (uN0.wb (.v x)) rfl, q79])
  rw [List.length_set, q3b] at h1
  exact h1)
 rw [xL_len] at h
 exact h
theorem z11 (es : List EN) (hl : es.length < 200) : ToldM Tryz.prog 128 [.ref 1000000 1 0 0, .agg [.c (.v (.int .i64 13)), .c (.v (.string ⟨#[]⟩)), .c (.v (.slice none 0 0)), .c (.v (.slice none 0 0)), .c (.v (.slice none 0 0)), .c (.v (.bool false)), .c (.v (.string ⟨#[]⟩)), .c (.v (.int .i64 0)), .c (.v (.int .i64 0)), .c (.v (.slice none 0 0))]] [xS es.length, xN es]
  [some (xS (es.length + 1)), some (xN (uE es []))] (.tup [.c (.v (.int .i64 (es.length : Int))), .c (.v (.int .i64 0))]) := by
 have h := j7n es hl uN0
 refine ToldM.co h (.cons (.same _) (.cons ?_ .nil))
 rw [EN.av_eq, q2v]
 exact Co.aggL (.cons (.same _) (.cons (.same _) (.cons (.nil 1) (.cons (.nil 9) (.cons (.nil 1) (.cons (.same _) (.cons (.same _) (.cons (.same _) (.cons (.same _) (.cons (.same _) .nil))))))))))
def q52 (hs : List HN) (k : Int) (o : Int) : Bool := o == k || (!q1w (q2r hs k.toNat) && q2r hs o.toNat == q2r hs k.toNat)
theorem j37 (hs : List HN) (l : List Int) (k : Int) : q4f hs l k = (q2r hs k.toNat != 13 && !l.any (q52 hs k)) := rfl
theorem kindE {es : List EN} {i : Nat} {e : EN} (h : es[i]? = some e) : q2r (hsE es) i = e.n.kind := by
 unfold q2r hsE
 rw [List.getElem?_map, h]
 rfl
theorem j83 {p : Int → Bool} {l : List Int} {i : Nat} {o : Int} (h : l[i]? = some o) : (l.take (i + 1)).any p = ((l.take i).any p || p o) := by
 rw [List.take_add_one, h]
 simp
theorem z6u (es : List EN) (hl : es.length < 200) (l : List JT) (h1 : 1 ≤ l.length) (h10 : l.length ≤ 10) (a : List UInt8) (f : q18) (hErr : ErrB f) (hLen : LenB f) (hN : ∀ x ∈ l, ∀ es' : List EN, es'.length ≤ 200 → RT 39 es' [x.av, .c (.v (.string (str a)))] (f (hsE es') x a))
  (ks' : List Int) (new' : List NT) (hU : q3f f (hsE es ++ [(13, [])]) a l [] [] = .ok (ks', new')) :
  ToldM Tryz.prog 76 [.ref 1000000 1 0 0, .c (.sl 5 (l.map JT.cells)), .c (.v (.string (str a)))] [xS es.length, xN es] [some (xS (es ++ ({ q1g 13 with branches := ks' } :: new').map EN.of).length), some (xN (es ++ ({ q1g 13 with branches := ks' } :: new').map EN.of))] (.tup [.c (.v (.int .i64 (es.length : Int))), .c (.v (.int .i64 0))]) := by
 have hd1 : ((l.length : Int) == 0) = false := beq_eq_false_iff_ne.2 (by omega)
 have hd2 : decide ((l.length : Int) > 10) = false := by simp; omega
 have hFr := z11 es hl
 have hscU : ∀ (new : List NT) (r m : Nat) {used : Nat → Prop} {h : Nat → Option Blkd}, (∀ e ∈ (rA EN.cells (uE es new)).set es.length (opB uN0 r m), ∀ x ∈ e, Sc used h x) = Sc used h (.row r m) := fun new r m {used} {h} => (q4z (by rw [q3b]; omega) _).trans (q5r uN0 r m)
 have hat0 : (rA EN.cells (uE es []))[es.length]? = some (uN0.cells.map .c) := q4j (q5f es [])
 have hlen0 : (uE es []).length = es.length + 1 := q3b es []
 obtain ⟨R, hR⟩ : ∃ R, R = es ++ ({ q1g 13 with branches := ks' } :: new').map EN.of := ⟨_, rfl⟩
 have hRl : R.length = es.length + 1 + new'.length := by rw [hR]; simp; omega
 rw [← hR, hRl]
 unfold xS xN at hFr ⊢
 refine VC.toldXF (And.intro @q0a (And.intro @q0g hRl)) j27 [] Tryz.func76 rfl Tryz.ntmps76 fun hb hbL => ?_
 clear hb hbL
 refine q0f (And.intro hd1 hd2) ?_
 refine q0i (And.intro @q0a @q0b) [1000000, 1000001] (hFr) ?_
 refine q0f (And.intro @q0a @q0b) ?_
 refine VC.nilRV 10 1000001 es.length 9 3 1 ⟨true, 40, 10, rA EN.cells (uE es [])⟩ (uN0.cells.map .c) (by simp only [go_sem, simprocAttr, q0b]) hat0 rfl (by rfl) (by trivial) (by rfl) ?_
 refine VC.loop (ι := {q : Nat × List Int × List NT // q.1 ≤ l.length ∧ q.2.1.length = q.1 ∧ es.length + 1 + q.2.2.length ≤ 200 ∧ (∀ o ∈ q.2.1, 0 ≤ o ∧ o < ((es.length + 1 + q.2.2.length : Nat) : Int)) ∧ q3f f (hsE es ++ [(13, [])]) a (l.drop q.1) q.2.1 q.2.2 = .ok (ks', new')})
  (fun q => [(0, .ref 1000000 1 0 0), (1, .c (.sl 5 (l.map JT.cells))), (2, .c (.v (.string (str a)))), (8, .c (.v (.int .i64 (es.length : Int)))), (10, .row 176 q.1.2.1.length), (11, .c (.v (.int .i64 (q.1.1 : Int))))])
  (fun q => [(1000000, ⟨false, 66, 2, [[.row 1000001 (es.length + 1 + q.1.2.2.length), .c (.v (.int .i64 0))]]⟩), (1000001, ⟨true, 40, 10, (rA EN.cells (uE es q.1.2.2)).set es.length (opB uN0 176 q.1.2.1.length)⟩), (176, ⟨true, 3, 1, rA iPV q.1.2.1⟩)]) 2000 (fun q => l.length - q.1.1)
  ⟨(0, [], []), Nat.zero_le _, rfl, by simp; omega, by simp, by rw [List.drop_zero]; exact hU⟩ ?_ ?_
 · refine q1l (And.intro @q0a (And.intro @q0g (And.intro @q0b (And.intro @q0s (And.intro @q3b (And.intro @q32 hscU)))))) ?_
   exact ⟨rfl, Nat.le_refl _⟩
 rintro ⟨⟨i, ks, new⟩, hi, hkl, hnl, hks, hGi⟩
 simp only [] at hi hkl hnl hks hGi ⊢
 have hlen : (uE es new).length = es.length + 1 + new.length := q3b es new
 refine q0c ?_
 refine VC.cond (by rfl) (by trivial) (fun hc => ?_) (fun hc => ?_)
 rotate_left
 · have hie : i = l.length := by simp at hc; omega
   rw [hie, List.drop_length, q3f] at hGi
   injection hGi with hGi
   injection hGi with g1 g2
   subst g1 g2
   refine VC.frz [176] [(8, .c (.v (.int .i64 (es.length : Int))))] [(1000001, ⟨true, 40, 10, rA EN.cells R⟩), (1000000, ⟨false, 66, 2, [[.row 1000001 (es.length + 1 + new.length), .c (.v (.int .i64 0))]]⟩)] 3000 ?_ ?_
   · refine q6y (And.intro @q0a (And.intro @q0g (And.intro @q0b (And.intro @q0v (And.intro @q1s hRl))))) ?_
     exact ⟨.same _, ⟨uFB 176 es new ks hR (by rfl), .same _⟩, Nat.le_refl _⟩
   refine q0c ?_
   refine q0j (@q0b) Tryz.results76 ?_
   exact ⟨.c _, .c _⟩
 · have hlt : i < l.length := by simp at hc; omega
   obtain ⟨x, hx⟩ : ∃ x, l[i]? = some x := ⟨l[i], List.getElem?_eq_getElem hlt⟩
   have hNx := hN x (List.mem_of_getElem? hx)
   have hwi : IntKind.i64.wrap ((i : Int) + 1) = (i : Int) + 1 := q0w (by omega) (by omega)
   have hdr : l.drop i = x :: l.drop (i + 1) := by
    obtain ⟨h5, h6⟩ := List.getElem?_eq_some_iff.1 hx
    rw [List.drop_eq_getElem_cons h5, h6]
   rw [hdr, q3f] at hGi
   have hhl : (hsE es ++ [(13, [])] ++ new.map q0p).length = es.length + 1 + new.length := by simp [hsE]; omega
   have hxp : (l.map JT.cells)[i]? = some x.cells := by rw [List.getElem?_map, hx]; rfl
   rw [q0m x] at hxp
   have hll0 : (i : Int) < (l.length : Int) := by omega
   cases hf : f (hsE es ++ [(13, [])] ++ new.map q0p) x a with
   | error e2 =>
     rw [hf] at hGi
     simp at hGi
   | ok V =>
   obtain ⟨m, k⟩ := V
   rw [hf] at hGi
   simp only [] at hGi
   have hL := hLen _ _ _ _ _ (by rw [hhl]; exact hnl) hf
   rw [hhl] at hL
   have hN1 := uOpenS es new ks m (f := 39) (args := [.ref 1000000 1 0 0, x.av, .c (.v (.string (str a)))]) (j2x k 0) (fun E hEl hEh => (hNx E (by rw [hEl]; exact hnl)).yes m k (by rw [hEh]; exact hf))
   unfold xS xNB xL at hN1
   rw [JT.av_eq x, q0m x] at hN1
   clear hN hNx hf
   have hlen2 : (uE es (new ++ m)).length = es.length + 1 + (new ++ m).length := q3b es (new ++ m)
   obtain ⟨en, hen⟩ : ∃ en, (uE es (new ++ m))[k.toNat]? = some en := ⟨(uE es (new ++ m))[k.toNat]'(by rw [hlen2, List.length_append]; omega), List.getElem?_eq_getElem _⟩
   have hkd : q2r (hsE es ++ [(13, [])] ++ (new ++ m).map q0p) k.toNat = en.n.kind := by rw [← q79]; exact kindE hen
   obtain ⟨c1, c2, c3, c4, c5, c6, c7, c8, c9, hat2⟩ := j3p (q5f es (new ++ m)) hen 176 ks.length
   have hk0 : (0 : Int) ≤ k := hL.2.1
   have hk1 : k < ((es.length + 1 + (new ++ m).length : Nat) : Int) := by rw [List.length_append]; omega
   generalize x.kd = x1 at *
   generalize x.num = x2 at *
   generalize x.txt = x3 at *
   generalize x.its = x4 at *
   generalize x.keys = x5 at *
   refine q0d (And.intro hxp hll0) ?_
   refine q0i (And.intro @q0a (And.intro @q0b (And.intro @q0v (And.intro @q1s (And.intro @q0s (And.intro hlen hlen2)))))) [1000000, 1000001, 176] (hN1) ?_
   refine q0f (And.intro @q0a (And.intro @q0b (And.intro @q0v (And.intro @q1s (And.intro @q0s (And.intro hlen2 (And.intro hat2 (And.intro hk0 hk1)))))))) ?_
   refine VC.cond (by rfl) (by trivial) (fun h13 => ?_) (fun h13 => ?_)
   · have h13' : en.n.kind = 13 := by simpa using h13
     have hbf : q4f (hsE es ++ [(13, [])] ++ (new ++ m).map q0p) ks k = false := by
      rw [j37, hkd, h13']
      rfl
     rw [hbf, if_neg (by simp)] at hGi
     simp at hGi
   have h13' : (en.n.kind != 13) = true := by simpa [bne] using h13
   have hbE : q4f (hsE es ++ [(13, [])] ++ (new ++ m).map q0p) ks k = !ks.any (q52 (hsE es ++ [(13, [])] ++ (new ++ m).map q0p) k) := by rw [j37, hkd, h13', Bool.true_and]
   have hNm := q6s en.n.kind
   refine q0c ?_
   refine VC.loop (ι := {n : Nat // n ≤ ks.length ∧ (ks.take n).any (q52 (hsE es ++ [(13, [])] ++ (new ++ m).map q0p) k) = false})
    (fun q => [(0, .ref 1000000 1 0 0), (1, .c (.sl 5 (l.map JT.cells))), (2, .c (.v (.string (str a)))), (8, .c (.v (.int .i64 (es.length : Int)))), (10, .row 176 ks.length), (11, .c (.v (.int .i64 (i : Int)))), (12, .c (.v (.int .i64 k))), (14, .c (.v (.int .i64 en.n.kind))), (15, .c (.v (.int .i64 (q.1 : Int))))])
    (fun q => [(1000000, ⟨false, 66, 2, [[.row 1000001 (es.length + 1 + (new ++ m).length), .c (.v (.int .i64 0))]]⟩), (1000001, ⟨true, 40, 10, (rA EN.cells (uE es (new ++ m))).set es.length (opB uN0 176 ks.length)⟩), (176, ⟨true, 3, 1, rA iPV ks⟩)]) 5000 (fun q => ks.length - q.1)
    ⟨0, Nat.zero_le _, rfl⟩ ?_ ?_
   · refine q1l (And.intro @q0a (And.intro @q0g (And.intro @q0b (And.intro @q0v (And.intro @q1s (And.intro @q0s (And.intro hlen2 hscU))))))) ?_
     (repeat' apply And.intro) <;> first | exact Nat.le_refl _ | rfl | exact cI (by omega)
   rintro ⟨p, hp, hpc⟩
   simp only []
   refine q0d (@q0a) ?_
   refine VC.cond (by rfl) (by trivial) (fun hc2 => ?_) (fun hc2 => ?_)
   rotate_left
   · have hpe : p = ks.length := by simp at hc2; omega
     rw [hpe, List.take_length] at hpc
     rw [hpc] at hbE
     rw [hbE, if_pos (by rfl)] at hGi
     have hat : ((rA EN.cells (uE es (new ++ m))).set es.length (opB uN0 176 ks.length))[es.length]? = some [.c (.v (.int .i64 13)), .c (.v (.string (str []))), .c (.sl 1 []), .c (.sl 9 []), .c (.sl 1 []), .c (.v (.bool false)), .c (.v (.string (str []))), .c (.v (.int .i64 0)), .c (.v (.int .i64 0)), .row 176 ks.length] := (List.getElem?_set_self (by rw [q0a, hlen2]; omega)).trans (congrArg some (uC_eq 176 ks.length))
     have hone : rA iPV ks ++ [[.c (.v (.int .i64 k))]] = rA iPV (ks ++ [k]) := q58 iPV ks k
     have h0l : (0 : Int) ≤ (es.length : Int) := by omega
     have hll : (es.length : Int) < ((es.length + 1 + (new ++ m).length : Nat) : Int) := by omega
     refine q0d (And.intro @q0a (And.intro @q0b (And.intro @q0v (And.intro @q1s (And.intro @q0s (And.intro hlen2 (And.intro hat (And.intro hone (And.intro @q8u (And.intro hwi (And.intro h0l hll))))))))))) ?_
     refine .next ⟨(i + 1, ks ++ [k], new ++ m), by simp only []; omega, by simp only [List.length_append, List.length_singleton]; omega, by simp only [List.length_append]; omega, fun o ho => ?_, hGi⟩ ?_ (by simp only []; omega)
     · simp only [List.mem_append, List.mem_singleton] at ho
       simp only [List.length_append]
       rcases ho with ho | rfl
       · have := hks o ho
         omega
       · have := hL
         omega
     refine q1l (And.intro @q0a (And.intro @q0g (And.intro @q0b (And.intro @q0v (And.intro @q1s (And.intro @q0s (And.intro hlen2 (And.intro hscU (And.intro @q7r @q8v))))))))) ?_
     (repeat' apply And.intro) <;> first | exact Nat.le_refl _ | rfl | exact cI (by omega)
   have hplt : p < ks.length := by simp at hc2; omega
   obtain ⟨o, ho⟩ : ∃ o, ks[p]? = some o := ⟨ks[p], List.getElem?_eq_getElem hplt⟩
   have hob := hks o (List.mem_of_getElem? ho)
   obtain ⟨eo, heo⟩ : ∃ eo, (uE es (new ++ m))[o.toNat]? = some eo := ⟨(uE es (new ++ m))[o.toNat]'(by rw [hlen2, List.length_append]; omega), List.getElem?_eq_getElem _⟩
   have hkdo : q2r (hsE es ++ [(13, [])] ++ (new ++ m).map q0p) o.toNat = eo.n.kind := by rw [← q79]; exact kindE heo
   obtain ⟨d1, d2, d3, d4, d5, d6, d7, d8, d9, hat3⟩ := j3p (q5f es (new ++ m)) heo 176 ks.length
   have hko : (rA iPV ks)[p]? = some [.c (.v (.int .i64 o))] := q4j ho
   have ho0 : (0 : Int) ≤ o := hob.1
   have ho1 : o < ((es.length + 1 + (new ++ m).length : Nat) : Int) := by rw [List.length_append]; omega
   have hpl : (p : Int) < (ks.length : Int) := by omega
   have hwp : IntKind.i64.wrap ((p : Int) + 1) = (p : Int) + 1 := q0w (by omega) (by omega)
   have hcf : q52 (hsE es ++ [(13, [])] ++ (new ++ m).map q0p) k o = (o == k || (!q1w en.n.kind && eo.n.kind == en.n.kind)) := by
    unfold q52
    rw [hkd, hkdo]
   have hbad : (o == k || (!q1w en.n.kind && eo.n.kind == en.n.kind)) = true → q4f (hsE es ++ [(13, [])] ++ (new ++ m).map q0p) ks k = false := fun h => by
    rw [hbE, List.any_eq_true.2 ⟨o, List.mem_of_getElem? ho, by rw [hcf]; exact h⟩]
    rfl
   have hgood : (o == k || (!q1w en.n.kind && eo.n.kind == en.n.kind)) = false → (ks.take (p + 1)).any (q52 (hsE es ++ [(13, [])] ++ (new ++ m).map q0p) k) = false := fun h => by
    rw [j83 ho, hpc, hcf, h]
    rfl
   cases g1 : (o == k) with
   | true =>
     have hbf : q4f (hsE es ++ [(13, [])] ++ (new ++ m).map q0p) ks k = false := by
      exact hbad (by rw [g1]; rfl)
     rw [hbf, if_neg (by simp)] at hGi
     simp at hGi
   | false =>
   cases g2 : (eo.n.kind == en.n.kind) with
   | false =>
     refine q0f (And.intro hko (And.intro hpl (And.intro @q0a (And.intro g1 (And.intro g2 (And.intro @q0b (And.intro @q0v (And.intro @q1s (And.intro @q0s (And.intro hlen2 (And.intro hat3 (And.intro ho0 (And.intro ho1 hwp))))))))))))) ?_
     refine .next ⟨p + 1, by omega, hgood (by rw [g1, g2]; simp)⟩ ?_ (by simp only []; omega)
     refine q1l (And.intro @q0a (And.intro @q0g (And.intro @q0b (And.intro @q0v (And.intro @q1s (And.intro @q0s (And.intro hlen2 hscU))))))) ?_
     (repeat' apply And.intro) <;> first | exact Nat.le_refl _ | rfl | exact cI (by omega)
   | true =>
   cases g3 : q1w en.n.kind with
   | true =>
     rw [g3] at hNm
     refine q0f (And.intro hko (And.intro hpl (And.intro @q0a (And.intro g1 (And.intro g2 (And.intro @q0b (And.intro @q0v (And.intro @q1s (And.intro @q0s (And.intro hlen2 (And.intro hat3 (And.intro ho0 ho1)))))))))))) ?_
     refine q0e (hNm) ?_
     refine q0f (hwp) ?_
     refine .next ⟨p + 1, by omega, hgood (by rw [g1, g3]; rfl)⟩ ?_ (by simp only []; omega)
     refine q1l (And.intro @q0a (And.intro @q0g (And.intro @q0b (And.intro @q0v (And.intro @q1s (And.intro @q0s (And.intro hlen2 hscU))))))) ?_
     (repeat' apply And.intro) <;> first | exact Nat.le_refl _ | rfl | exact cI (by omega)
   | false =>
     have hbf : q4f (hsE es ++ [(13, [])] ++ (new ++ m).map q0p) ks k = false := by
      exact hbad (by rw [g1, g2, g3]; rfl)
     rw [hbf, if_neg (by simp)] at hGi
     simp at hGi
theorem runion_no (es : List EN) (hl : es.length < 200) (l : List JT) (h1 : 1 ≤ l.length) (h10 : l.length ≤ 10) (a : List UInt8) (f : q18) (hErr : ErrB f) (hLen : LenB f) (hN : ∀ x ∈ l, ∀ es' : List EN, es'.length ≤ 200 → RT 39 es' [x.av, .c (.v (.string (str a)))] (f (hsE es') x a))
  (e : Int) (hU : q3f f (hsE es ++ [(13, [])]) a l [] [] = .error e) :
  ToldM Tryz.prog 76 [.ref 1000000 1 0 0, .c (.sl 5 (l.map JT.cells)), .c (.v (.string (str a)))] [xS es.length, xN es] [none, none] (.tup [.c (.v (.int .i64 0)), .c (.v (.int .i64 e))]) := by
 have hd1 : ((l.length : Int) == 0) = false := beq_eq_false_iff_ne.2 (by omega)
 have hd2 : decide ((l.length : Int) > 10) = false := by simp; omega
 have hFr := z11 es hl
 have hscU : ∀ (new : List NT) (r m : Nat) {used : Nat → Prop} {h : Nat → Option Blkd}, (∀ e ∈ (rA EN.cells (uE es new)).set es.length (opB uN0 r m), ∀ x ∈ e, Sc used h x) = Sc used h (.row r m) := fun new r m {used} {h} => (q4z (by rw [q3b]; omega) _).trans (q5r uN0 r m)
 have hat0 : (rA EN.cells (uE es []))[es.length]? = some (uN0.cells.map .c) := q4j (q5f es [])
 have hlen0 : (uE es []).length = es.length + 1 := q3b es []
 unfold xS xN at hFr ⊢
 refine VC.toldXF (And.intro @q0a @q0g) j27 [] Tryz.func76 rfl Tryz.ntmps76 fun hb hbL => ?_
 clear hb hbL
 refine q0f (And.intro hd1 hd2) ?_
 refine q0i (And.intro @q0a @q0b) [1000000, 1000001] (hFr) ?_
 refine q0f (And.intro @q0a @q0b) ?_
 refine VC.nilRV 10 1000001 es.length 9 3 1 ⟨true, 40, 10, rA EN.cells (uE es [])⟩ (uN0.cells.map .c) (by simp only [go_sem, simprocAttr, q0b]) hat0 rfl (by rfl) (by trivial) (by rfl) ?_
 refine VC.loop (ι := {q : Nat × List Int × List NT // q.1 ≤ l.length ∧ q.2.1.length = q.1 ∧ es.length + 1 + q.2.2.length ≤ 200 ∧ (∀ o ∈ q.2.1, 0 ≤ o ∧ o < ((es.length + 1 + q.2.2.length : Nat) : Int)) ∧ q3f f (hsE es ++ [(13, [])]) a (l.drop q.1) q.2.1 q.2.2 = .error e})
  (fun q => [(0, .ref 1000000 1 0 0), (1, .c (.sl 5 (l.map JT.cells))), (2, .c (.v (.string (str a)))), (8, .c (.v (.int .i64 (es.length : Int)))), (10, .row 176 q.1.2.1.length), (11, .c (.v (.int .i64 (q.1.1 : Int))))])
  (fun q => [(1000000, ⟨false, 66, 2, [[.row 1000001 (es.length + 1 + q.1.2.2.length), .c (.v (.int .i64 0))]]⟩), (1000001, ⟨true, 40, 10, (rA EN.cells (uE es q.1.2.2)).set es.length (opB uN0 176 q.1.2.1.length)⟩), (176, ⟨true, 3, 1, rA iPV q.1.2.1⟩)]) 2000 (fun q => l.length - q.1.1)
  ⟨(0, [], []), Nat.zero_le _, rfl, by simp; omega, by simp, by rw [List.drop_zero]; exact hU⟩ ?_ ?_
 · refine q1l (And.intro @q0a (And.intro @q0g (And.intro @q0b (And.intro @q0s (And.intro @q3b (And.intro @q32 hscU)))))) ?_
   exact ⟨rfl, Nat.le_refl _⟩
 rintro ⟨⟨i, ks, new⟩, hi, hkl, hnl, hks, hGi⟩
 simp only [] at hi hkl hnl hks hGi ⊢
 have hlen : (uE es new).length = es.length + 1 + new.length := q3b es new
 refine q0c ?_
 refine VC.cond (by rfl) (by trivial) (fun hc => ?_) (fun hc => ?_)
 rotate_left
 · have hie : i = l.length := by simp at hc; omega
   rw [hie, List.drop_length, q3f] at hGi
   simp at hGi
 · have hlt : i < l.length := by simp at hc; omega
   obtain ⟨x, hx⟩ : ∃ x, l[i]? = some x := ⟨l[i], List.getElem?_eq_getElem hlt⟩
   have hNx := hN x (List.mem_of_getElem? hx)
   have hwi : IntKind.i64.wrap ((i : Int) + 1) = (i : Int) + 1 := q0w (by omega) (by omega)
   have hdr : l.drop i = x :: l.drop (i + 1) := by
    obtain ⟨h5, h6⟩ := List.getElem?_eq_some_iff.1 hx
    rw [List.drop_eq_getElem_cons h5, h6]
   rw [hdr, q3f] at hGi
   have hhl : (hsE es ++ [(13, [])] ++ new.map q0p).length = es.length + 1 + new.length := by simp [hsE]; omega
   have hxp : (l.map JT.cells)[i]? = some x.cells := by rw [List.getElem?_map, hx]; rfl
   rw [q0m x] at hxp
   have hll0 : (i : Int) < (l.length : Int) := by omega
   cases hf : f (hsE es ++ [(13, [])] ++ new.map q0p) x a with
   | error e2 =>
     rw [hf] at hGi
     injection hGi with hGi
     subst hGi
     have q1 : (e2 != 0) = true := by simpa using hErr _ _ _ _ hf
     have hN1 := uNoS es new ks (f := 39) (args := [.ref 1000000 1 0 0, x.av, .c (.v (.string (str a)))]) (j2x 0 e2) (fun E hEl hEh => (hNx E (by rw [hEl]; exact hnl)).no e2 (by rw [hEh]; exact hf))
     unfold xS xNB xL at hN1
     rw [JT.av_eq x, q0m x] at hN1
     clear hN hNx hLen hErr
     generalize x.kd = x1 at *
     generalize x.num = x2 at *
     generalize x.txt = x3 at *
     generalize x.its = x4 at *
     generalize x.keys = x5 at *
     refine q0d (And.intro hxp hll0) ?_
     refine q0i (And.intro @q0a (And.intro @q0b (And.intro @q0v (And.intro @q1s (And.intro @q0s hlen))))) [1000000, 1000001, 176] (hN1) ?_
     refine q0f (And.intro @q0a (And.intro @q0b (And.intro @q0v (And.intro @q1s (And.intro @q0s q1))))) ?_
     refine q0j (@q0b) Tryz.results76 ?_
     exact ⟨.c _, .c _⟩
   | ok V =>
   obtain ⟨m, k⟩ := V
   rw [hf] at hGi
   simp only [] at hGi
   have hL := hLen _ _ _ _ _ (by rw [hhl]; exact hnl) hf
   rw [hhl] at hL
   have hN1 := uOpenS es new ks m (f := 39) (args := [.ref 1000000 1 0 0, x.av, .c (.v (.string (str a)))]) (j2x k 0) (fun E hEl hEh => (hNx E (by rw [hEl]; exact hnl)).yes m k (by rw [hEh]; exact hf))
   unfold xS xNB xL at hN1
   rw [JT.av_eq x, q0m x] at hN1
   clear hN hNx hf
   have hlen2 : (uE es (new ++ m)).length = es.length + 1 + (new ++ m).length := q3b es (new ++ m)
   obtain ⟨en, hen⟩ : ∃ en, (uE es (new ++ m))[k.toNat]? = some en := ⟨(uE es (new ++ m))[k.toNat]'(by rw [hlen2, List.length_append]; omega), List.getElem?_eq_getElem _⟩
   have hkd : q2r (hsE es ++ [(13, [])] ++ (new ++ m).map q0p) k.toNat = en.n.kind := by rw [← q79]; exact kindE hen
   obtain ⟨c1, c2, c3, c4, c5, c6, c7, c8, c9, hat2⟩ := j3p (q5f es (new ++ m)) hen 176 ks.length
   have hk0 : (0 : Int) ≤ k := hL.2.1
   have hk1 : k < ((es.length + 1 + (new ++ m).length : Nat) : Int) := by rw [List.length_append]; omega
   generalize x.kd = x1 at *
   generalize x.num = x2 at *
   generalize x.txt = x3 at *
   generalize x.its = x4 at *
   generalize x.keys = x5 at *
   refine q0d (And.intro hxp hll0) ?_
   refine q0i (And.intro @q0a (And.intro @q0b (And.intro @q0v (And.intro @q1s (And.intro @q0s (And.intro hlen hlen2)))))) [1000000, 1000001, 176] (hN1) ?_
   refine q0f (And.intro @q0a (And.intro @q0b (And.intro @q0v (And.intro @q1s (And.intro @q0s (And.intro hlen2 (And.intro hat2 (And.intro hk0 hk1)))))))) ?_
   refine VC.cond (by rfl) (by trivial) (fun h13 => ?_) (fun h13 => ?_)
   · have h13' : en.n.kind = 13 := by simpa using h13
     have hbf : q4f (hsE es ++ [(13, [])] ++ (new ++ m).map q0p) ks k = false := by
      rw [j37, hkd, h13']
      rfl
     rw [hbf, if_neg (by simp)] at hGi
     injection hGi with hGi
     subst hGi
     refine q0c ?_
     refine q0j (@q0b) Tryz.results76 ?_
     exact ⟨.c _, .c _⟩
   have h13' : (en.n.kind != 13) = true := by simpa [bne] using h13
   have hbE : q4f (hsE es ++ [(13, [])] ++ (new ++ m).map q0p) ks k = !ks.any (q52 (hsE es ++ [(13, [])] ++ (new ++ m).map q0p) k) := by rw [j37, hkd, h13', Bool.true_and]
   have hNm := q6s en.n.kind
   refine q0c ?_
   refine VC.loop (ι := {n : Nat // n ≤ ks.length ∧ (ks.take n).any (q52 (hsE es ++ [(13, [])] ++ (new ++ m).map q0p) k) = false})
    (fun q => [(0, .ref 1000000 1 0 0), (1, .c (.sl 5 (l.map JT.cells))), (2, .c (.v (.string (str a)))), (8, .c (.v (.int .i64 (es.length : Int)))), (10, .row 176 ks.length), (11, .c (.v (.int .i64 (i : Int)))), (12, .c (.v (.int .i64 k))), (14, .c (.v (.int .i64 en.n.kind))), (15, .c (.v (.int .i64 (q.1 : Int))))])
    (fun q => [(1000000, ⟨false, 66, 2, [[.row 1000001 (es.length + 1 + (new ++ m).length), .c (.v (.int .i64 0))]]⟩), (1000001, ⟨true, 40, 10, (rA EN.cells (uE es (new ++ m))).set es.length (opB uN0 176 ks.length)⟩), (176, ⟨true, 3, 1, rA iPV ks⟩)]) 5000 (fun q => ks.length - q.1)
    ⟨0, Nat.zero_le _, rfl⟩ ?_ ?_
   · refine q1l (And.intro @q0a (And.intro @q0g (And.intro @q0b (And.intro @q0v (And.intro @q1s (And.intro @q0s (And.intro hlen2 hscU))))))) ?_
     (repeat' apply And.intro) <;> first | exact Nat.le_refl _ | rfl | exact cI (by omega)
   rintro ⟨p, hp, hpc⟩
   simp only []
   refine q0d (@q0a) ?_
   refine VC.cond (by rfl) (by trivial) (fun hc2 => ?_) (fun hc2 => ?_)
   rotate_left
   · have hpe : p = ks.length := by simp at hc2; omega
     rw [hpe, List.take_length] at hpc
     rw [hpc] at hbE
     rw [hbE, if_pos (by rfl)] at hGi
     have hat : ((rA EN.cells (uE es (new ++ m))).set es.length (opB uN0 176 ks.length))[es.length]? = some [.c (.v (.int .i64 13)), .c (.v (.string (str []))), .c (.sl 1 []), .c (.sl 9 []), .c (.sl 1 []), .c (.v (.bool false)), .c (.v (.string (str []))), .c (.v (.int .i64 0)), .c (.v (.int .i64 0)), .row 176 ks.length] := (List.getElem?_set_self (by rw [q0a, hlen2]; omega)).trans (congrArg some (uC_eq 176 ks.length))
     have hone : rA iPV ks ++ [[.c (.v (.int .i64 k))]] = rA iPV (ks ++ [k]) := q58 iPV ks k
     have h0l : (0 : Int) ≤ (es.length : Int) := by omega
     have hll : (es.length : Int) < ((es.length + 1 + (new ++ m).length : Nat) : Int) := by omega
     refine q0d (And.intro @q0a (And.intro @q0b (And.intro @q0v (And.intro @q1s (And.intro @q0s (And.intro hlen2 (And.intro hat (And.intro hone (And.intro @q8u (And.intro hwi (And.intro h0l hll))))))))))) ?_
     refine .next ⟨(i + 1, ks ++ [k], new ++ m), by simp only []; omega, by simp only [List.length_append, List.length_singleton]; omega, by simp only [List.length_append]; omega, fun o ho => ?_, hGi⟩ ?_ (by simp only []; omega)
     · simp only [List.mem_append, List.mem_singleton] at ho
       simp only [List.length_append]
       rcases ho with ho | rfl
       · have := hks o ho
         omega
       · have := hL
         omega
     refine q1l (And.intro @q0a (And.intro @q0g (And.intro @q0b (And.intro @q0v (And.intro @q1s (And.intro @q0s (And.intro hlen2 (And.intro hscU (And.intro @q7r @q8v))))))))) ?_
     (repeat' apply And.intro) <;> first | exact Nat.le_refl _ | rfl | exact cI (by omega)
   have hplt : p < ks.length := by simp at hc2; omega
   obtain ⟨o, ho⟩ : ∃ o, ks[p]? = some o := ⟨ks[p], List.getElem?_eq_getElem hplt⟩
   have hob := hks o (List.mem_of_getElem? ho)
   obtain ⟨eo, heo⟩ : ∃ eo, (uE es (new ++ m))[o.toNat]? = some eo := ⟨(uE es (new ++ m))[o.toNat]'(by rw [hlen2, List.length_append]; omega), List.getElem?_eq_getElem _⟩
   have hkdo : q2r (hsE es ++ [(13, [])] ++ (new ++ m).map q0p) o.toNat = eo.n.kind := by rw [← q79]; exact kindE heo
   obtain ⟨d1, d2, d3, d4, d5, d6, d7, d8, d9, hat3⟩ := j3p (q5f es (new ++ m)) heo 176 ks.length
   have hko : (rA iPV ks)[p]? = some [.c (.v (.int .i64 o))] := q4j ho
   have ho0 : (0 : Int) ≤ o := hob.1
   have ho1 : o < ((es.length + 1 + (new ++ m).length : Nat) : Int) := by rw [List.length_append]; omega
   have hpl : (p : Int) < (ks.length : Int) := by omega
   have hwp : IntKind.i64.wrap ((p : Int) + 1) = (p : Int) + 1 := q0w (by omega) (by omega)
   have hcf : q52 (hsE es ++ [(13, [])] ++ (new ++ m).map q0p) k o = (o == k || (!q1w en.n.kind && eo.n.kind == en.n.kind)) := by
    unfold q52
    rw [hkd, hkdo]
   have hbad : (o == k || (!q1w en.n.kind && eo.n.kind == en.n.kind)) = true → q4f (hsE es ++ [(13, [])] ++ (new ++ m).map q0p) ks k = false := fun h => by
    rw [hbE, List.any_eq_true.2 ⟨o, List.mem_of_getElem? ho, by rw [hcf]; exact h⟩]
    rfl
   have hgood : (o == k || (!q1w en.n.kind && eo.n.kind == en.n.kind)) = false → (ks.take (p + 1)).any (q52 (hsE es ++ [(13, [])] ++ (new ++ m).map q0p) k) = false := fun h => by
    rw [j83 ho, hpc, hcf, h]
    rfl
   cases g1 : (o == k) with
   | true =>
     have hbf : q4f (hsE es ++ [(13, [])] ++ (new ++ m).map q0p) ks k = false := by
      exact hbad (by rw [g1]; rfl)
     rw [hbf, if_neg (by simp)] at hGi
     injection hGi with hGi
     subst hGi
     refine q0f (And.intro hko (And.intro hpl (And.intro @q0a g1))) ?_
     refine q0j (@q0b) Tryz.results76 ?_
     exact ⟨.c _, .c _⟩
   | false =>
   cases g2 : (eo.n.kind == en.n.kind) with
   | false =>
     refine q0f (And.intro hko (And.intro hpl (And.intro @q0a (And.intro g1 (And.intro g2 (And.intro @q0b (And.intro @q0v (And.intro @q1s (And.intro @q0s (And.intro hlen2 (And.intro hat3 (And.intro ho0 (And.intro ho1 hwp))))))))))))) ?_
     refine .next ⟨p + 1, by omega, hgood (by rw [g1, g2]; simp)⟩ ?_ (by simp only []; omega)
     refine q1l (And.intro @q0a (And.intro @q0g (And.intro @q0b (And.intro @q0v (And.intro @q1s (And.intro @q0s (And.intro hlen2 hscU))))))) ?_
     (repeat' apply And.intro) <;> first | exact Nat.le_refl _ | rfl | exact cI (by omega)
   | true =>
   cases g3 : q1w en.n.kind with
   | true =>
     rw [g3] at hNm
     refine q0f (And.intro hko (And.intro hpl (And.intro @q0a (And.intro g1 (And.intro g2 (And.intro @q0b (And.intro @q0v (And.intro @q1s (And.intro @q0s (And.intro hlen2 (And.intro hat3 (And.intro ho0 ho1)))))))))))) ?_
     refine q0e (hNm) ?_
     refine q0f (hwp) ?_
     refine .next ⟨p + 1, by omega, hgood (by rw [g1, g3]; rfl)⟩ ?_ (by simp only []; omega)
     refine q1l (And.intro @q0a (And.intro @q0g (And.intro @q0b (And.intro @q0v (And.intro @q1s (And.intro @q0s (And.intro hlen2 hscU))))))) ?_
     (repeat' apply And.intro) <;> first | exact Nat.le_refl _ | rfl | exact cI (by omega)
   | false =>
     have hbf : q4f (hsE es ++ [(13, [])] ++ (new ++ m).map q0p) ks k = false := by
      exact hbad (by rw [g1, g2, g3]; rfl)
     rw [hbf, if_neg (by simp)] at hGi
     injection hGi with hGi
     subst hGi
     rw [g3] at hNm
     refine q0f (And.intro hko (And.intro hpl (And.intro @q0a (And.intro g1 (And.intro g2 (And.intro @q0b (And.intro @q0v (And.intro @q1s (And.intro @q0s (And.intro hlen2 (And.intro hat3 (And.intro ho0 ho1)))))))))))) ?_
     refine q0e (hNm) ?_
     refine q0u ?_
     refine q0j (@q0b) Tryz.results76 ?_
     exact ⟨.c _, .c _⟩
theorem runion_rt (es : List EN) (hl : es.length ≤ 200) (l : List JT) (a : List UInt8) (f : q18) (hErr : ErrB f) (hLen : LenB f) (hN : ∀ x ∈ l, ∀ es' : List EN, es'.length ≤ 200 → RT 39 es' [x.av, .c (.v (.string (str a)))] (f (hsE es') x a)) :
  RT 76 es [.c (.sl 5 (l.map JT.cells)), .c (.v (.string (str a)))] (q6d f (hsE es) l a) := by
 have hsl := hs_len es
 unfold q6d
 by_cases hb : l.length < 1 ∨ 10 < l.length
 · rw [if_pos hb]
   refine ⟨fun new k h => by simp at h, fun e h => ?_⟩
   injection h with h
   subst h
   unfold xS xN
   by_cases h0 : l.length < 1
   · have hd1 : ((l.length : Int) == 0) = true := beq_iff_eq.2 (by omega)
     refine VC.toldXF (And.intro @q0a @q0g) j27 [] Tryz.func76 rfl Tryz.ntmps76 fun hb hbL => ?_
     clear hb hbL
     refine q0f (hd1) ?_
     refine q0j (@q0b) Tryz.results76 ?_
     exact ⟨.c _, .c _⟩
   · have hd1 : ((l.length : Int) == 0) = false := beq_eq_false_iff_ne.2 (by omega)
     have hd2 : decide ((l.length : Int) > 10) = true := by simp; omega
     refine VC.toldXF (And.intro @q0a @q0g) j27 [] Tryz.func76 rfl Tryz.ntmps76 fun hb hbL => ?_
     clear hb hbL
     refine q0f (And.intro hd1 hd2) ?_
     refine q0j (@q0b) Tryz.results76 ?_
     exact ⟨.c _, .c _⟩
 rw [if_neg hb]
 by_cases h200 : 200 ≤ (hsE es).length
 · rw [if_pos h200]
   refine ⟨fun new k h => by simp at h, fun e h => ?_⟩
   injection h with h
   subst h
   have hY := (j48 es hl 13).no 3 (by unfold q3k; rw [if_pos h200])
   have hd1 : ((l.length : Int) == 0) = false := beq_eq_false_iff_ne.2 (by omega)
   have hd2 : decide ((l.length : Int) > 10) = false := by simp; omega
   unfold xS xN at hY ⊢
   refine VC.toldXF (And.intro @q0a @q0g) j27 [] Tryz.func76 rfl Tryz.ntmps76 fun hb hbL => ?_
   clear hbL
   refine q0f (And.intro hd1 hd2) ?_
   refine q0i (And.intro @q0a @q0b) [1000000, 1000001] (hY) ?_
   refine q0f (And.intro @q0a @q0b) ?_
   refine q0j (@q0b) Tryz.results76 ?_
   exact ⟨.c _, .c _⟩
 rw [if_neg h200]
 refine ⟨fun new k h => ?_, fun e h => ?_⟩
 · cases hU : q3f f (hsE es ++ [(13, [])]) a l [] [] with
   | error e => rw [hU] at h; simp at h
   | ok V =>
     obtain ⟨ks', new'⟩ := V
     rw [hU] at h
     injection h with h
     injection h with h3 h4
     subst h3 h4
     rw [hsl]
     exact z6u es (by omega) l (by omega) (by omega) a f hErr hLen hN ks' new' hU
 · cases hU : q3f f (hsE es ++ [(13, [])]) a l [] [] with
   | ok V => rw [hU] at h; simp at h
   | error e2 =>
     rw [hU] at h
     injection h with h
     subst h
     exact runion_no es (by omega) l (by omega) (by omega) a f hErr hLen hN e2 hU
end
end Go.Proofs.YthkofkaocipomaaGreatDoor
