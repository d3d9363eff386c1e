/- Texts that lead to the law BuildRight, joined. -/
import Derived.Test.YthkofkaocipomaaGreatDoorPkBuildRightD
import Derived.Test.YthkofkaocipomaaGreatDoorPkBuildRightB
import Derived.Test.YthkofkaocipomaaGreatDoorPkBuildRightA
import Derived.Test.YthkofkaocipomaaGreatDoorPkBuildRightXAbB
import Derived.Scope
namespace Go.Proofs.YthkofkaocipomaaGreatDoor
open Go.RowKit
set_option linter.unusedVariables false
set_option linter.unusedSimpArgs false
section
attribute [local go_sem] opx opE ev okx q46 bnd okO AV.get AV.okb cAV q7s q82 q81 j12 q6k q8u q8t st q7w q5v q7y q7z q7x binV binI binS q4g q5c q47 q5d unV q5o q31 q3e q0y q10 Blkd.len setE grown q1j q4m q3g q2z pv q4t q3o q4d AV.cellish AV.pureL AV.pureB q8s q8f AV.ren AV.renL q84 Blkd.ren rho wrM renN q2s rhoE q4b q4h q7o q7r j1c j1f j1j j1o j1r q63 q9b q9g q9h q9m q9q q9s q9t q9u q9z q94 q99 q7p q7q j0f q62 j0k j0l j0n j0o j09 j1a j1b j1d j1e j1g j1h j1i j1k j1l j1m j1n j1p j1q j1s j1t j1u j1v j1w q9c q9d q9e q9f q9i q9j q9k q9l q9n q9o q9p q9r q9v q9w q9x q9y q90 q91 q92 q93 q95 q96 q97 q98 j0a j0b j0c j0d j0e j0g j0h j0i j0j j0m j0p j0q j0r j0s j0t j0u j0v j0w j0x j0y j0z j00 j01 j02 j03 j04 j05 j06 j07 j08 Option.map_some Option.map_none Option.getD_some Option.getD_none Option.bind_some Option.bind_none List.getElem?_cons_zero List.getElem?_cons_succ List.getElem?_nil List.getElem?_toArray List.length_cons List.length_nil List.length_map List.forall_mem_map List.map_cons List.map_nil List.drop_zero List.drop_succ_cons List.drop_nil List.take_zero List.take_succ_cons List.take_nil List.mem_cons List.not_mem_nil or_false forall_eq_or_imp forall_eq List.set_cons_zero List.set_cons_succ List.cons_append List.nil_append List.append_nil List.foldl_cons List.foldl_nil List.replicate_succ List.replicate_zero List.all_cons List.all_nil if_true if_false Bool.false_eq_true ne_eq not_false_eq_true not_true_eq_false true_and and_true and_self true_implies imp_self implies_true forall_const beq_self_eq_true Bool.and_true Bool.true_and Bool.and_false Bool.false_and Bool.or_true Bool.true_or Bool.or_false Bool.false_or Bool.not_true Bool.not_false Bool.not_eq_eq_eq_not q50 Value.oneCell' Int.toNat_natCast beq_true beq_false Bool.not_eq_true false_implies false_or true_or or_true Nat.zero_add Nat.add_zero decide_true decide_false Int.cast_ofNat_Int Int.toNat_zero Int.toNat_one eq_self

set_option maxRecDepth 100000 in
set_option maxHeartbeats 1600000 in
theorem z4j (s : ST) (hsm : s.sm 1000000) (ho : q27 s = true) (p : Nat) (hp : p < s.nodes.length) : Told Tryz.prog 37 [s.av, .c (.v (.int .i64 (p : Int)))] (.c (.v (.int .i64 (wOf s.nodes p)))) := by
 obtain ⟨hl, hs⟩ := hsm
 have hO := z0c s hl hs
 rw [ho] at hO
 have hW := z1x s hl hs (z37 ho) (s.nodes.length + 1) p (List.replicate s.nodes.length 0) hp (by simp) (fun x hx => by obtain rfl := (List.mem_replicate.1 hx).2; decide) (by have := List.count_le_length (a := (0 : Int)) (l := List.replicate s.nodes.length 0); simp at this ⊢)
 have hwl : (rA iPV (q2d s.nodes (s.nodes.length + 1) p (List.replicate s.nodes.length 0)).2).length = s.nodes.length := by
  rw [q0a]
  exact (j4d s.nodes (s.nodes.length + 1) p _ (by simp) (fun x hx => by obtain rfl := (List.mem_replicate.1 hx).2; decide)).1
 obtain ⟨V, hV⟩ : ∃ V, V = wOf s.nodes p := ⟨_, rfl⟩
 rw [← hV]
 unfold wOf at hV
 rw [← hV] at hW
 generalize (q2d s.nodes (s.nodes.length + 1) p (List.replicate s.nodes.length 0)).2 = D at hW hwl
 clear hV
 rw [rA_rep] at hW
 simp only [ST.av_eq, q5a, List.map_cons, List.map_nil] at hO hW
 have f0 : decide ((p : Int) < 0) = false := by simp
 have f1 : decide ((p : Int) ≥ (s.nodes.length : Int)) = false := by simp; omega
 rw [ST.av_eq, q5a]
 refine VC.toldP ent_37 Tryz.func37 rfl Tryz.ntmps37 fun hb => ?_
 clear hb
 refine q0d (And.intro f0 f1) ?_
 refine q0h (hO) ?_
 (repeat (first | refine pass ?_ | refine VC.region (by rfl) (by rfl) ?_ | (refine AO.step fun K hK => ?_; simp only [List.length_replicate, go_sem, Int.reduceBEq, Int.reduceLE, Int.reduceLT, Int.reduceNeg, Nat.reduceAdd, Nat.reduceEqDiff, Nat.reduceLT, Nat.reduceLeDiff, Nat.reduceMul, Nat.reduceSub, reduceCtorEq, ↓reduceIte]; (first | refine q07 ?_ | refine q0g ?_ | skip); (first | refine hK _ _ _ ?_ | refine ⟨by first | omega | exact ⟨_, rfl, rfl⟩ | exact fun _ => ⟨_, rfl, rfl⟩ | (intro h; simp only [List.length_replicate, h, true_and]; omega) | (clear hK; intro h; simp_all <;> omega), hK _ _ _ ?_⟩); clear hK K) | refine VC.draw mixP (by rfl) (by rfl) ?_ | refine ⟨q08 (by kernel_rfl), ?_⟩ | refine BQ.other (by decide) ?_ | refine VC.seq ?_ | refine AO.nil ?_ | refine VC.block ?_ | refine VC.condT (by rfl) (by trivial) ?_ | refine VC.condF (by rfl) (by trivial) ?_))
 ((refine AO.step fun K hK => ?_; simp only [go_sem, Int.reduceBEq, Int.reduceLE, Int.reduceLT, Int.reduceNeg, Nat.reduceAdd, Nat.reduceEqDiff, Nat.reduceLT, Nat.reduceLeDiff, Nat.reduceMul, Nat.reduceSub, reduceCtorEq, ↓reduceIte, q0b, List.length_replicate, List.map_replicate]; (first | refine q0g ?_ | skip)); refine .inr (.inr (.inl ⟨?vy1, [168], ?va1, ?vl1, ?vm1, ?cond1, ?cont1⟩)); (case cond1 => ((repeat' apply And.intro) <;> (try ((with_reducible show ToldM _ _ _ _ _ _); exact hW))); (all_goals first | trivial | (simp only [q0b, List.length_replicate, List.map_replicate, go_sem, simprocAttr]; done) | (simp; done) | rfl)); (first | refine hK _ _ _ ?_ | (simp only [q0b, List.length_replicate, List.map_replicate, go_sem, simprocAttr]; first | refine hK _ _ _ ?_ | refine ⟨rfl, hK _ _ _ ?_⟩)); clear hK K)
 refine q0c ?_
 refine retX Tryz.results37 ?_
 exact .c _

set_option maxRecDepth 100000 in
set_option maxHeartbeats 3200000 in
theorem z2e (j : JT) (hR : Told Tryz.prog 34 [j.av] (.c (.v (.bool false)))) : Told Tryz.prog 13 [j.av] (.tup [(ST.mk [] 0).av, .c (.v (.int .i64 2))]) := by
 simp only [ST.av_eq, List.map_nil]
 rw [JT.av_eq, q03] at *
 generalize j.kd = j1 at *
 generalize j.num = j2 at *
 generalize j.txt = j3 at *
 generalize j.its = j4 at *
 generalize j.keys = j5 at *
 refine VC.toldP ent_13 Tryz.func13 rfl Tryz.ntmps13 fun hb => ?_
 clear hb
 refine q0c ?_
 refine q0h (hR) ?_
 refine q1m ?_
 refine retX Tryz.results13 ?_
 exact ⟨.aggL (.cons (.nil 10) (.cons (.c _) .nil)), .c _⟩
theorem j7l (j : JT) (hs : j.sm 1000000) : Told Tryz.prog 13 [j.av] (.tup [(q2l j).1.av, .c (.v (.int .i64 (q2l j).2))]) := by
 have hR := j5d j (sm_le (by omega) j hs)
 cases hr : jR j with
 | false =>
   rw [hr] at hR
   have hb : q2l j = (⟨[], 0⟩, 2) := by
    unfold q2l q3d
    rw [hr]
    rfl
   rw [hb]
   exact z2e j hR
 | true =>
   have hd : q1o j ≤ 32 := by
    rw [q7c, Bool.and_eq_true, decide_eq_true_eq] at hr
    exact hr.1
   have K := knode 3000000 rfl 33 j [] (by omega) hs (by simp)
   have hV := K.told [] (by simp)
   have hlen := K.len [] (by simp)
   simp only [List.length_nil, Nat.zero_add] at hlen
   have h := j3s 33 j [] []
   unfold BRel at h
   have hB : (q3r 33 j [] []).2.2 = 0 → q3d j = .ok ⟨(q3r 33 j [] []).1, 0⟩ := fun he => by
    unfold q3d
    rw [hr, if_pos rfl, h, he, q21]
   rw [← bld_eq j]
   refine z2f j (jR j) hR (q3r 33 j [] []) hlen hV (wOf (q3r 33 j [] []).1) fun i hi he => ?_
   have hb := hB he
   exact z4j ⟨(q3r 33 j [] []).1, 0⟩ (j7m hs hb) (q71 hb) i hi
section
section
variable {P : Program} {N : Nat} {Q : Exit → ASt → Prop}
inductive GQ (Q : Exit → ASt → Prop) : Exit → ASt → Prop
 | normal {σ : ASt} (h : Q .normal σ) : GQ Q .normal σ
 | ret {σ : ASt} (h : Q .ret σ) : GQ Q .ret σ
 | exit {σ : ASt} {id : Nat} (h : Q (.exit id) σ) : GQ Q (.exit id) σ
theorem VC.scope {σ : ASt} {c : Code} (h : VC P N c σ (GQ Q)) : VC P N (.scope c) σ Q := ⟨fun C a W r => by
 refine wp_scope_straight (wp_mono (h.out C a W r) ?_)
 rintro e a' W' ⟨σ', hq, hr⟩
 cases hq with
 | normal h => exact ⟨σ', h, hr⟩
 | ret h => exact ⟨σ', h, hr⟩
 | exit h => exact ⟨σ', h, hr⟩⟩
theorem VC.label {σ : ASt} {l : Nat} (h : Q .normal σ) : VC P N (.label l) σ Q := ⟨fun C a W r => wp_label ⟨σ, h, r⟩⟩
instance p17 {c : Code} {σ : ASt} : Pass (VC P N (.scope c) σ Q) (VC P N c σ (GQ Q)) := ⟨VC.scope⟩
instance p18 {l : Nat} {σ : ASt} : Pass (VC P N (.label l) σ Q) (Q .normal σ) := ⟨VC.label⟩
instance p19 {σ : ASt} : Pass (GQ Q .normal σ) (Q .normal σ) := ⟨.normal⟩
instance p20 {σ : ASt} : Pass (GQ Q .ret σ) (Q .ret σ) := ⟨.ret⟩
instance p21 {σ : ASt} {id : Nat} : Pass (GQ Q (.exit id) σ) (Q (.exit id) σ) := ⟨.exit⟩
end
end

theorem z15 : ∀ L : List Blkd, zOk L (L.map fun _ => none)
 | [] => trivial
 | _ :: L => z15 L
theorem j9c {L : List Blkd} (j : Nat) : q0e (L.map fun _ => (none : Option Blkd)) j = none := by
 unfold q0e
 split
 · cases h : (L.map fun _ => (none : Option Blkd))[j - 1000000]? with
   | none => rfl
   | some x =>
     obtain ⟨B, _, rfl⟩ := List.mem_map.1 (List.mem_of_getElem? h)
     rfl
 · rfl
theorem ToldM.gone {P : Program} {f : FuncId} {args args' : List AV} {L : List Blkd} {y : AV} (hT : Told P f args' y) (hp : AV.pureL args' = true) (hy : y.pureB = true) (hL : ∀ B ∈ L, ∀ e ∈ B.elems, ∀ x ∈ e, ∃ p, x = .c p) (hlen : args'.length = args.length)
  (hv : ∀ (k : Nat) (x z : AV), args[k]? = some x → args'[k]? = some z → View (q0e (L.map some)) x z) : ToldM P f args L (L.map fun _ => none) y := by
 refine ⟨hT.1, z15 L, ⟨(q6y y hy).sc, fun b hb B hB => ?_⟩, fun W ro φ vs hro hgk hl hok => ?_⟩
 · obtain ⟨_, _, rfl⟩ := List.mem_map.1 hb
   simp at hB
 · have r : Rel (P := P) ⟨W, fun b => ∃ j B, q0e (L.map some) j = some B ∧ q0m (φ j) = some b, ro, fun _ => none, φ⟩ (fun _ => True) 0 (fun _ => .any) (q0e (L.map some)) ro φ ⟨#[], []⟩ W := by
    refine ⟨Keeps.refl _ W, rfl, rfl, fun k => .any _, hok.hp, hok.inj, fun j B b h1 h2 => ⟨hok.own j B b h1 h2, fun _ => ⟨j, B, h1, h2⟩⟩, hro, fun b h => h, fun b h => .inl h, fun k => .any, fun j B hB => ⟨trivial, fun e he x hx => ?_⟩, fun j n h => by simp at h, ⟨fun b hb => ⟨hro b hb, fun ⟨j, B, h1, h2⟩ => hok.own j B b h1 h2 hb⟩, hgk⟩⟩
    obtain ⟨_, h2⟩ := q37 hB
    rw [List.getElem?_map] at h2
    cases h3 : L[j - 1000000]? with
    | none => rw [h3] at h2; simp at h2
    | some C =>
      rw [h3] at h2
      obtain rfl := Option.some.inj (Option.some.inj h2)
      obtain ⟨p, rfl⟩ := hL _ (List.mem_of_getElem? h3) e he x hx
      exact .c
   have hl2 : RepL W (fun b => ro b ∨ ∃ j B, q0e (L.map some) j = some B ∧ q0m (φ j) = some b) φ0 h0 args' vs := by
    refine ⟨by rw [hl.1, hlen], fun j z v h1 h2 => ?_⟩
    have hj : j < args.length := by rw [← hlen]; exact (List.getElem?_eq_some_iff.1 h1).1
    have h3 := View.rep r (hv j _ z (List.getElem?_eq_getElem hj) h1) (hl.2 j _ v (List.getElem?_eq_getElem hj) h2)
    exact h3.pure (q48 args' hp z (List.mem_of_getElem? h1))
   have hro2 : ∀ b, (ro b ∨ ∃ j B, q0e (L.map some) j = some B ∧ q0m (φ j) = some b) → b < W.heap.size := by
    rintro b (hb | ⟨j, B, h1, h2⟩)
    · exact hro b hb
    · exact r.blk_lt h1 h2
   refine Calls.mono (hT.2 W _ vs hro2 (hgk.mono (fun _ _ => rfl) fun b hb => .inl hb) hl2) ?_
   rintro e W' ⟨v, ro', rfl, hb, h1, h2, h3, h4⟩
   refine ⟨v, ro', φ0, rfl, ⟨hb.os, hb.tape, hb.output, hb.size, fun k hk _ => hb.block k hk⟩, fun b hb' => h1 b (.inl hb'), fun b hb' => ⟨?_, (h2 b hb').2⟩, h3.pure h4, ⟨fun j B hB => ?_, fun j k B B' b hB => ?_, fun j B b hB => ?_⟩, fun j B' _ hB => ?_, fun j B b hB => ?_⟩
   · rcases (h2 b hb').1 with (h5 | h5) | h5
     · exact .inl h5
     · exact .inr (.inr h5)
     · exact .inr (.inl h5)
   all_goals (rw [j9c] at hB; simp at hB)
inductive PCo : PV → PV → Prop
 | same (p : PV) : PCo p p
 | nil (z : Nat) : PCo (.v (.slice none 0 0)) (.sl z [])
 | sl {z : Nat} {es es' : List (List PV)} (hl : es'.length = es.length) (hx : ∀ (i : Nat) (e e' : List PV), es[i]? = some e → es'[i]? = some e' → e'.length = e.length)
   (hy : ∀ (i : Nat) (e e' : List PV), es[i]? = some e → es'[i]? = some e' → ∀ (j : Nat) (p q : PV), e[j]? = some p → e'[j]? = some q → PCo p q) : PCo (.sl z es) (.sl z es')
theorem PCo.rep {W : World} {ro : Nat → Prop} {p q : PV} (h : PCo p q) : ∀ {v : Value}, PRep W ro p v → PRep W ro q v := by
 induction h with
 | same p => exact fun h => h
 | nil z => intro v hr; cases hr with | v => exact PRep.nil _ _ _
 | @sl z es es' hl hx hy ih =>
   intro v hr
   cases hr with
   | @sl _ _ a c vss hn hc hnil ha hvl hz hz' hxx =>
     rw [← hl]
     refine .sl (by omega) hc hnil (fun hne => ha fun e0 => hne ?_) (by omega) (fun i e he => ?_) hz' (fun i j e vs p v h1 h2 h3 h4 => ?_)
     · rw [e0] at hl
       exact List.eq_nil_of_length_eq_zero hl
     · have hi : i < es.length := by rw [← hl]; exact (List.getElem?_eq_some_iff.1 he).1
       rw [hx i _ e (List.getElem?_eq_getElem hi) he]
       exact hz i _ (List.getElem?_eq_getElem hi)
     · have hi : i < es.length := by rw [← hl]; exact (List.getElem?_eq_some_iff.1 h1).1
       have g1 := hx i _ e (List.getElem?_eq_getElem hi) h1
       have hj : j < es[i].length := by rw [← g1]; exact (List.getElem?_eq_some_iff.1 h3).1
       exact ih i _ e (List.getElem?_eq_getElem hi) h1 j _ p (List.getElem?_eq_getElem hj) h3 (hxx i j _ vs _ v (List.getElem?_eq_getElem hi) h2 (List.getElem?_eq_getElem hj) h4)
inductive PCoL : List PV → List PV → Prop
 | nil : PCoL [] []
 | cons {x y : PV} {l m : List PV} (e : PCo x y) (t : PCoL l m) : PCoL (x :: l) (y :: m)
theorem PCoL.at_ {l m : List PV} (h : PCoL l m) : m.length = l.length ∧ ∀ (k : Nat) (x y : PV), l[k]? = some x → m[k]? = some y → PCo x y := by
 induction h with
 | nil => exact ⟨rfl, by simp⟩
 | cons e t ih =>
   refine ⟨by simp [ih.1], fun k x y h1 h2 => ?_⟩
   cases k with
   | zero => simp at h1 h2; subst h1 h2; exact e
   | succ k => exact ih.2 k x y (by simpa using h1) (by simpa using h2)
inductive PCoE : List (List PV) → List (List PV) → Prop
 | nil : PCoE [] []
 | cons {x y : List PV} {l m : List (List PV)} (e : PCoL x y) (t : PCoE l m) : PCoE (x :: l) (y :: m)
theorem PCoE.at_ {l m : List (List PV)} (h : PCoE l m) : m.length = l.length ∧ ∀ (k : Nat) (x y : List PV), l[k]? = some x → m[k]? = some y → PCoL x y := by
 induction h with
 | nil => exact ⟨rfl, by simp⟩
 | cons e t ih =>
   refine ⟨by simp [ih.1], fun k x y h1 h2 => ?_⟩
   cases k with
   | zero => simp at h1 h2; subst h1 h2; exact e
   | succ k => exact ih.2 k x y (by simpa using h1) (by simpa using h2)
theorem PCo.rows {z : Nat} {es es' : List (List PV)} (h : PCoE es es') : PCo (.sl z es) (.sl z es') :=
 .sl h.at_.1 (fun i e e' h1 h2 => (h.at_.2 i e e' h1 h2).at_.1) fun i e e' h1 h2 j p q h3 h4 => (h.at_.2 i e e' h1 h2).at_.2 j p q h3 h4
theorem Told.pco {P : Program} {f : FuncId} {l m : List PV} {y : AV} (hT : Told P f [.agg (m.map .c)] y) (hc : PCoL l m) : Told P f [.agg (l.map .c)] y := by
 refine ⟨hT.1, fun W ro vs hro hgk hl => hT.2 W ro vs hro hgk ⟨hl.1, fun j x v h1 h2 => ?_⟩⟩
 cases j with
 | succ j => simp at h1
 | zero =>
   obtain rfl := Option.some.inj h1
   have hr := hl.2 0 _ v rfl h2
   cases hr with
   | agg hl' hx =>
     obtain ⟨g1, g2⟩ := hc.at_
     refine .agg (by rw [hl', List.length_map, List.length_map, g1]) fun k x v h3 h4 => ?_
     rw [List.getElem?_map] at h3
     cases h5 : m[k]? with
     | none => rw [h5] at h3; simp at h3
     | some q =>
       rw [h5] at h3
       obtain rfl := Option.some.inj h3
       have hk : k < l.length := by rw [← g1]; exact (List.getElem?_eq_some_iff.1 h5).1
       have h6 := hx k (.c l[k]) v (by rw [List.getElem?_map, List.getElem?_eq_getElem hk]; rfl) h4
       cases h6 with
       | c hp => exact .c ((g2 k _ q (List.getElem?_eq_getElem hk) h5).rep hp)
theorem Told.m {P : Program} {f : FuncId} {args : List AV} {y : AV} (hT : Told P f args y) (hp : AV.pureL args = true) (hy : y.pureB = true) : ToldM P f args [] [] y :=
 ToldM.gone (L := []) hT hp hy (by simp) rfl fun k x z h1 h2 => by
  rw [h1] at h2
  obtain rfl := Option.some.inj h2
  exact .same _
theorem ToldM.told {P : Program} {f : FuncId} {args : List AV} {y : AV} (hT : ToldM P f args [] [] y) (hp : AV.pureL args = true) (hy : y.pureB = true) : Told P f args y := by
 have hn : ∀ j, q0e (([] : List Blkd).map some) j = none := fun j => j9c (L := []) j
 refine ⟨hT.enters, fun W ro vs hro hgk hl => ?_⟩
 refine Calls.mono (hT.out W ro φ0 vs hro hgk ⟨hl.1, fun j x v h1 h2 => (hl.2 j x v h1 h2).pure (q48 args hp x (List.mem_of_getElem? h1))⟩ ⟨fun j B h => by rw [hn] at h; simp at h, fun j k B B' b h => by rw [hn] at h; simp at h, fun j B b h => by rw [hn] at h; simp at h⟩) ?_
 rintro e W' ⟨v, ro', φ', rfl, h1, h2, h3, h4, _, _, _⟩
 refine ⟨v, ro', rfl, ⟨h1.os, h1.tape, h1.output, h1.size, fun k hk => h1.block k hk fun ⟨j, B, h5, _⟩ => by rw [hn] at h5; simp at h5⟩, h2, fun b hb => ⟨?_, (h3 b hb).2⟩, h4.pure (q6y y hy), q6y y hy⟩
 rcases (h3 b hb).1 with h5 | h5 | ⟨j, B, h5, _⟩
 · exact .inl h5
 · exact .inr h5
 · rw [hn] at h5; simp at h5
end
end Go.Proofs.YthkofkaocipomaaGreatDoor
