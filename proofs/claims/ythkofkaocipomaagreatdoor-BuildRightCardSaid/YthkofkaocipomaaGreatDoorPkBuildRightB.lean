/- Texts that lead to the law BuildRight, joined. -/
import Derived.Test.YthkofkaocipomaaGreatDoorPkBuildRightA
import Derived.Test.YthkofkaocipomaaGreatDoorPkBuildRightXShelf
import Derived.Test.YthkofkaocipomaaGreatDoorPkBuildRightXAbB
import Derived.Test.YthkofkaocipomaaGreatDoorPkBuildRightXAc
import Derived.Laws.CopyOwn
namespace Go.Proofs.YthkofkaocipomaaGreatDoor
set_option maxRecDepth 100000
set_option maxHeartbeats 6400000
open Go.RowKit
set_option linter.unusedVariables false
set_option linter.unusedSimpArgs false
section
attribute [local go_sem] opx opE ev okx q46 bnd okO AV.get AV.okb cAV q7s q82 q81 j12 q6k q8u q8t st q7w q5v q7y q7z q7x binV binI binS q4g q5c q47 q5d unV q5o q31 q3e q0y q10 Blkd.len setE grown q1j q4m q3g q2z pv q4t q3o q4d AV.cellish AV.pureL AV.pureB q8s q8f AV.ren AV.renL q84 Blkd.ren rho wrM renN q2s rhoE q4b q4h q7o q7r j1c j1f j1j j1o j1r q63 q9b q9g q9h q9m q9q q9s q9t q9u q9z q94 q99 q7p q7q j0f q62 j0k j0l j0n j0o j09 j1a j1b j1d j1e j1g j1h j1i j1k j1l j1m j1n j1p j1q j1s j1t j1u j1v j1w q9c q9d q9e q9f q9i q9j q9k q9l q9n q9o q9p q9r q9v q9w q9x q9y q90 q91 q92 q93 q95 q96 q97 q98 j0a j0b j0c j0d j0e j0g j0h j0i j0j j0m j0p j0q j0r j0s j0t j0u j0v j0w j0x j0y j0z j00 j01 j02 j03 j04 j05 j06 j07 j08 Option.map_some Option.map_none Option.getD_some Option.getD_none Option.bind_some Option.bind_none List.getElem?_cons_zero List.getElem?_cons_succ List.getElem?_nil List.getElem?_toArray List.length_cons List.length_nil List.length_map List.forall_mem_map List.map_cons List.map_nil List.drop_zero List.drop_succ_cons List.drop_nil List.take_zero List.take_succ_cons List.take_nil List.mem_cons List.not_mem_nil or_false forall_eq_or_imp forall_eq List.set_cons_zero List.set_cons_succ List.cons_append List.nil_append List.append_nil List.foldl_cons List.foldl_nil List.replicate_succ List.replicate_zero List.all_cons List.all_nil if_true if_false Bool.false_eq_true ne_eq not_false_eq_true not_true_eq_false true_and and_true and_self true_implies imp_self implies_true forall_const beq_self_eq_true Bool.and_true Bool.true_and Bool.and_false Bool.false_and Bool.or_true Bool.true_or Bool.or_false Bool.false_or Bool.not_true Bool.not_false Bool.not_eq_eq_eq_not q50 Value.oneCell' Int.toNat_natCast beq_true beq_false Bool.not_eq_true false_implies false_or true_or or_true Nat.zero_add Nat.add_zero decide_true decide_false Int.cast_ofNat_Int Int.toNat_zero Int.toNat_one eq_self

def KnOk (kn : List Int) : Prop := ∀ x ∈ kn, -1 ≤ x ∧ x ≤ 1001
theorem KnOk.set {kn : List Int} (h : KnOk kn) (p : Nat) {v : Int} (hv : -1 ≤ v ∧ v ≤ 1001) : KnOk (kn.set p v) := fun x hx => by
 rcases List.mem_or_eq_of_mem_set hx with h1 | rfl
 · exact h x h1
 · exact hv
theorem j4p {kn : List Int} (p : Nat) {v : Int} (hv : v ≠ 0) : (kn.set p v).count 0 ≤ kn.count 0 := by
 by_cases hp : p < kn.length
 · rw [List.count_set hp]
   have : (v == 0) = false := by simpa using hv
   simp [this]
 · rw [List.set_eq_of_length_le (by omega)]
   exact Nat.le_refl _
theorem j7s {kn : List Int} {p : Nat} {v : Int} (hp : kn[p]? = some 0) (hv : v ≠ 0) : (kn.set p v).count 0 < kn.count 0 := by
 obtain ⟨hlt, h0⟩ := List.getElem?_eq_some_iff.1 hp
 rw [List.count_set hlt]
 have : (v == 0) = false := by simpa using hv
 have hpos : 0 < kn.count 0 := List.count_pos_iff.2 (h0 ▸ List.getElem_mem hlt)
 simp [this, h0]
 omega
theorem z1v (f : Nat → List Int → Int × List Int) (N : Nat) (hf : ∀ q kn, kn.length = N → KnOk kn → (f q kn).2.length = N ∧ KnOk (f q kn).2 ∧ (f q kn).2.count 0 ≤ kn.count 0 ∧ 1 ≤ (f q kn).1 ∧ (f q kn).1 ≤ 1001) :
  ∀ (xs : List FT) (n : Int) (kn : List Int), kn.length = N → KnOk kn → 1 ≤ n → n ≤ 1001 → (q3m f xs n kn).2.length = N ∧ KnOk (q3m f xs n kn).2 ∧ (q3m f xs n kn).2.count 0 ≤ kn.count 0 ∧ 1 ≤ (q3m f xs n kn).1 ∧ (q3m f xs n kn).1 ≤ 1001
 | [], n, kn, h1, h2, h3, h4 => ⟨h1, h2, Nat.le_refl _, h3, h4⟩
 | x :: xs, n, kn, h1, h2, h3, h4 => by
   rw [q3m]
   obtain ⟨a1, a2, a3, a4, a5⟩ := hf x.type.toNat kn h1 h2
   obtain ⟨b1, b2, b3, b4, b5⟩ := z1v f N hf xs (min (n + (f x.type.toNat kn).1) 1001) (f x.type.toNat kn).2 a1 a2 (by omega) (by omega)
   exact ⟨b1, b2, by omega, b4, b5⟩
theorem knAt_of {kn : List Int} {p : Nat} {v : Int} (h : kn[p]? = some v) : knAt kn p = v := by rw [knAt, h]
theorem j4d (ns : List NT) : ∀ (d q : Nat) (kn : List Int), kn.length = ns.length → KnOk kn → (q2d ns d q kn).2.length = ns.length ∧ KnOk (q2d ns d q kn).2 ∧ (q2d ns d q kn).2.count 0 ≤ kn.count 0 ∧ 1 ≤ (q2d ns d q kn).1 ∧ (q2d ns d q kn).1 ≤ 1001
 | 0, q, kn, h1, h2 => ⟨h1, h2, Nat.le_refl _, (by decide : (1 : Int) ≤ 1001), (by decide : (1001 : Int) ≤ 1001)⟩
 | d + 1, q, kn, h1, h2 => by
   rw [q2d]
   split
   · exact ⟨h1, h2, Nat.le_refl _, (by decide : (1 : Int) ≤ 1001), (by decide : (1001 : Int) ≤ 1001)⟩
   · split
     · rename_i h3 h4
       refine ⟨h1, h2, Nat.le_refl _, by omega, ?_⟩
       unfold knAt
       split
       · rename_i v hv
         exact (h2 v (List.mem_of_getElem? hv)).2
       · exact (by decide : (0 : Int) ≤ 1001)
     · obtain ⟨b1, b2, b3, b4, b5⟩ := z1v (q2d ns d) ns.length (j4d ns d) (q2e ns q) 1 (kn.set q (-1)) (by rw [List.length_set]; exact h1) (h2.set q (by decide)) (by decide) (by decide)
       have c1 := j4p (kn := kn) q (v := -1) (by decide)
       have c2 := j4p (kn := (q3m (q2d ns d) (q2e ns q) 1 (kn.set q (-1))).2) q (v := (q3m (q2d ns d) (q2e ns q) 1 (kn.set q (-1))).1) (by omega)
       exact ⟨by rw [List.length_set]; exact b1, b2.set q (by omega), by simp only []; omega, b4, b5⟩
theorem z1x (s : ST) (hl : s.nodes.length ≤ 1000000) (hs : ∀ n ∈ s.nodes, n.sm 1000000) (hr : ∀ n ∈ s.nodes, n.kind = 9 → ∀ f ∈ n.fields, 0 ≤ f.type ∧ f.type < (s.nodes.length : Int)) : ∀ (d p : Nat) (kn : List Int), p < s.nodes.length → kn.length = s.nodes.length → KnOk kn → kn.count 0 < d →
  ToldM Tryz.prog 54 [s.av, .c (.v (.int .i64 (p : Int))), .row 1000000 s.nodes.length] [⟨true, 3, 1, rA iPV kn⟩] [some ⟨true, 3, 1, rA iPV (q2d s.nodes d p kn).2⟩] (.c (.v (.int .i64 (q2d s.nodes d p kn).1))) := by
 intro d
 induction d with
 | zero => intro p kn _ _ _ h; omega
 | succ d ih =>
 intro p kn hp hk hko hc
 obtain ⟨R, hR⟩ : ∃ R, R = q2d s.nodes (d + 1) p kn := ⟨_, rfl⟩
 rw [← hR]
 rw [q2d] at hR
 obtain ⟨v, hv⟩ : ∃ v, kn[p]? = some v := ⟨kn[p]'(by omega), List.getElem?_eq_getElem (by omega)⟩
 rw [knAt_of hv] at hR
 have hvp : (rA iPV kn)[p]? = some [.c (.v (.int .i64 v))] := q6z hv
 have hkl : (rA iPV kn).length = s.nodes.length := by rw [q0a, hk]
 obtain ⟨N, hN⟩ : ∃ N, N = s.nodes.length := ⟨_, rfl⟩
 rw [ST.av_eq, q5a]
 by_cases hv0 : v < 0
 · rw [if_pos hv0] at hR
   subst hR
   have e0 : decide (v < 0) = true := by simpa using hv0
   refine VC.toldXF (And.intro @q0a (And.intro @q0i hk)) ent_54 [] Tryz.func54 rfl Tryz.ntmps54 fun hb hbL => ?_
   clear hb hbL
   refine q06 (And.intro hvp (And.intro hkl e0)) ?_
   refine q09 (@q0b) Tryz.results54 ?_
   exact .c _
 have e0 : decide (v < 0) = false := by simpa using hv0
 rw [if_neg hv0] at hR
 by_cases hv1 : 0 < v
 · rw [if_pos hv1] at hR
   subst hR
   have e1 : decide (v > 0) = true := by simpa using hv1
   refine VC.toldXF (And.intro @q0a (And.intro @q0i hk)) ent_54 [] Tryz.func54 rfl Tryz.ntmps54 fun hb hbL => ?_
   clear hb hbL
   refine q06 (And.intro hvp (And.intro hkl (And.intro e0 e1))) ?_
   refine q09 (@q0b) Tryz.results54 ?_
   exact .c _
 have e1 : decide (v > 0) = false := by simpa using hv1
 rw [if_neg hv1] at hR
 obtain rfl : v = 0 := by omega
 obtain ⟨n, hn⟩ : ∃ n, s.nodes[p]? = some n := ⟨s.nodes[p], List.getElem?_eq_getElem hp⟩
 have hnp : (s.nodes.map NT.cells)[p]? = some n.cells := by rw [List.getElem?_map, hn]; rfl
 have hns := hs n (List.mem_of_getElem? hn)
 have hfl := hns.2.2.2.2.2.1
 have hset : (rA iPV kn).set p [.c (.v (.int .i64 (-1)))] = rA iPV (kn.set p (-1)) := q7i kn p (-1)
 have hfa : q2e s.nodes p = if n.kind = 9 then n.fields else [] := by rw [q2e, hn]
 obtain ⟨K0, hK0⟩ : ∃ K, K = q3m (q2d s.nodes d) (q2e s.nodes p) 1 (kn.set p (-1)) := ⟨_, rfl⟩
 rw [← hK0] at hR
 subst hR
 have hct := j7s (v := -1) hv (by decide)
 refine VC.toldXF (And.intro @q0a (And.intro @q0i hk)) ent_54 [] Tryz.func54 rfl Tryz.ntmps54 fun hb hbL => ?_
 clear hb hbL
 refine q06 (And.intro hvp (And.intro hkl (And.intro e0 (And.intro e1 (And.intro hset (And.intro hnp @q4c)))))) ?_
 refine VC.loop (ι := {x : Nat × (Int × List Int) // x.1 ≤ n.fields.length ∧ x.2.2.length = s.nodes.length ∧ KnOk x.2.2 ∧ x.2.2.count 0 < kn.count 0 ∧ 1 ≤ x.2.1 ∧ x.2.1 ≤ 1001 ∧ (if n.kind = 9 then q3m (q2d s.nodes d) (n.fields.drop x.1) x.2.1 x.2.2 else (x.2.1, x.2.2)) = K0})
  (fun q => [(1, .c (.v (.int .i64 (p : Int)))), (2, .row 1000000 s.nodes.length), (3, .ref 0 1 0 0), (7, .c (.v (.int .i64 q.1.2.1))), (34, .c (.sl 9 (n.fields.map FT.cells))), (35, .c (.v (.int .i64 (n.fields.length : Int)))), (36, .c (.v (.int .i64 (q.1.1 : Int))))])
  (fun q => [(0, ⟨false, 30, 2, [[.c (.sl 10 (s.nodes.map NT.cells)), .c (.v (.int .i64 s.root))]]⟩), (1000000, ⟨true, 3, 1, rA iPV q.1.2.2⟩)]) 800 (fun q => n.fields.length - q.1.1)
  ⟨(0, (1, kn.set p (-1))), Nat.zero_le _, by simp only []; rw [List.length_set]; exact hk, hko.set p (by decide), hct, by simp only []; omega, by simp only []; omega, by
    rw [hK0, hfa]
    split
    · rw [List.drop_zero]
    · rfl⟩ ?_ ?_
 · simp only [q0a, q0i, hk, List.length_set, Weak, eq_self, q0x, q0r, sc_c, q0t, q0u, q0v, q0q, q0s, ScL, q0w, List.forall_mem_map, go_sem, Int.reduceBEq, Int.reduceLE, Int.reduceLT, Int.reduceNeg, Nat.reduceAdd, Nat.reduceEqDiff, Nat.reduceLT, Nat.reduceLeDiff, Nat.reduceMul, Nat.reduceSub, reduceCtorEq, ↓reduceIte]
   try simp
 clear hK0 hct hv hvp hset
 rintro ⟨⟨i, m, kn'⟩, hi, hk', hko', hc', hm1, hm2, hK⟩
 simp only [] at hi hk' hko' hc' hm1 hm2 hK ⊢
 have hkl' : (rA iPV kn').length = s.nodes.length := by rw [q0a, hk']
 refine q0c ?_
 refine VC.cond (by rfl) (by trivial) (fun hc2 => ?_) (fun hc2 => ?_)
 · have hil : i < n.fields.length := by simp at hc2; omega
   obtain ⟨f, hx⟩ : ∃ f, n.fields[i]? = some f := ⟨n.fields[i], List.getElem?_eq_getElem hil⟩
   have hxp : (n.fields.map FT.cells)[i]? = some f.cells := by rw [List.getElem?_map, hx]; rfl
   have hw : IntKind.i64.wrap ((i : Int) + 1) = (i : Int) + 1 := q1g (by omega) (by omega)
   by_cases h9 : n.kind = 9
   · have e9 : (n.kind == 9) = true := by simpa using h9
     obtain ⟨h0, h1⟩ := hr n (List.mem_of_getElem? hn) h9 f (List.mem_of_getElem? hx)
     obtain ⟨q, hq⟩ : ∃ q : Nat, f.type = (q : Int) := ⟨f.type.toNat, by omega⟩
     have hI := ih q kn' (by omega) hk' hko' (by omega)
     obtain ⟨w1, w2, w3, w4, w5⟩ := j4d s.nodes d q kn' hk' hko'
     rw [if_pos h9, (List.drop_eq_getElem_cons hil).trans (by rw [(List.getElem?_eq_some_iff.1 hx).2]), q3m, hq, Int.toNat_natCast] at hK
     obtain ⟨M, hM⟩ : ∃ M, M = q2d s.nodes d q kn' := ⟨_, rfl⟩
     rw [← hM] at hI hK w1 w2 w3 w4 w5
     clear ih hM
     have hww : IntKind.i64.wrap (m + M.1) = m + M.1 := q1g (by omega) (by omega)
     have hkl2 : (rA iPV M.2).length = s.nodes.length := by rw [q0a, w1]
     simp only [ST.av_eq, q5a, List.map_cons, List.map_nil] at hI
     refine q06 (And.intro hxp (And.intro @q8g (And.intro @q2o (And.intro @q3a (And.intro @q2y (And.intro hnp (And.intro @q4c (And.intro e9 (And.intro hkl' hq))))))))) ?_
     refine q0n (And.intro hkl' (And.intro hq @q0b)) [1000000] (hI) ?_
     refine q0d (And.intro hww (And.intro hw hkl2)) ?_
     refine .next ⟨(i + 1, (min (m + M.1) 1001, M.2)), by simp only []; omega, w1, w2, by simp only []; omega, by simp only []; omega, by simp only []; omega, by simp only []; rw [if_pos h9]; exact hK⟩ ?_ (by simp only []; omega)
     refine q3l (And.intro @q0a (And.intro @q0i (And.intro @q0b w1))) ?_
     exact ⟨cI (by omega), Nat.le_refl _⟩
   · have e9 : (n.kind == 9) = false := by simpa using h9
     rw [if_neg h9] at hK
     refine q06 (And.intro hxp (And.intro @q8g (And.intro @q2o (And.intro @q3a (And.intro @q2y (And.intro hnp (And.intro @q4c (And.intro e9 hw)))))))) ?_
     refine .next ⟨(i + 1, (m, kn')), by simp only []; omega, hk', hko', hc', hm1, hm2, by simp only []; rw [if_neg h9]; exact hK⟩ ?_ (by simp only []; omega)
     refine q3l (And.intro @q0a (And.intro @q0i hk')) ?_
     exact ⟨cI (by omega), Nat.le_refl _⟩
 · have hie : i = n.fields.length := by simp at hc2; omega
   have hf : K0 = (m, kn') := by
    rw [← hK]
    split
    · rw [hie, List.drop_length, q3m]
    · rfl
   subst hf
   have hset : (rA iPV kn').set p [.c (.v (.int .i64 m))] = rA iPV (kn'.set p m) := q7i kn' p m
   obtain ⟨u, hu⟩ : ∃ u, kn'[p]? = some u := ⟨kn'[p]'(by omega), List.getElem?_eq_getElem (by omega)⟩
   have hup : (rA iPV kn')[p]? = some [.c (.v (.int .i64 u))] := q6z hu
   refine q0d (And.intro hkl' (And.intro hup hset)) ?_
   refine q09 (@q0b) Tryz.results54 ?_
   exact .c _

def q3p (g : Nat → Int) : List FT → Int → Int
 | [], n => n
 | x :: xs, n => q3p g xs (min (n + g x.type.toNat) 1001)
def omg (ns : List NT) : Nat → Nat → Int
 | 0, _ => 1001
 | d + 1, p => q3p (omg ns d) (q2e ns p) 1
theorem j8l {g h : Nat → Int} (hgh : ∀ q, g q ≤ h q) : ∀ (xs : List FT) (n m : Int), n ≤ m → q3p g xs n ≤ q3p h xs m
 | [], n, m, h => h
 | x :: xs, n, m, h => by
   rw [q3p, q3p]
   have := hgh x.type.toNat
   exact j8l hgh xs _ _ (by omega)
theorem j40 {g : Nat → Int} : ∀ (xs : List FT) (n : Int), n ≤ 1001 → q3p g xs n ≤ 1001
 | [], n, h => h
 | x :: xs, n, h => by
   rw [q3p]
   exact j40 xs _ (by omega)
theorem j4z {g : Nat → Int} (hg : ∀ q, 1 ≤ g q) : ∀ (xs : List FT) (n : Int), n ≤ 1001 → n ≤ q3p g xs n
 | [], n, h => Int.le_refl _
 | x :: xs, n, h => by
   rw [q3p]
   have h1 := hg x.type.toNat
   have := j4z hg xs (min (n + g x.type.toNat) 1001) (by omega)
   omega
theorem j8n {g : Nat → Int} (hg : ∀ q, 1 ≤ g q) : ∀ (xs : List FT) (n : Int), 1 ≤ n → n ≤ 1001 → (∃ x ∈ xs, g x.type.toNat = 1001) → q3p g xs n = 1001
 | [], n, _, h, hx => by obtain ⟨x, hx, _⟩ := hx; simp at hx
 | x :: xs, n, h1, h, hx => by
   rw [q3p]
   have hgx := hg x.type.toNat
   by_cases he : g x.type.toNat = 1001
   · have hm : min (n + g x.type.toNat) 1001 = 1001 := by omega
     rw [hm]
     have a := j4z hg xs 1001 (by omega)
     have b := j40 (g := g) xs 1001 (by omega)
     omega
   · obtain ⟨y, hy, hy2⟩ := hx
     rcases List.mem_cons.1 hy with rfl | hy
     · exact absurd hy2 he
     · exact j8n hg xs _ (by omega) (by omega) ⟨y, hy, hy2⟩
theorem j2h (ns : List NT) : ∀ (d p : Nat), 1 ≤ omg ns d p ∧ omg ns d p ≤ 1001
 | 0, p => ⟨by rw [omg]; decide, by rw [omg]; decide⟩
 | d + 1, p => by
   rw [omg]
   exact ⟨j4z (fun q => (j2h ns d q).1) _ _ (by decide), j40 _ _ (by decide)⟩
theorem omg_dec (ns : List NT) : ∀ (d p : Nat), omg ns (d + 1) p ≤ omg ns d p
 | 0, p => by rw [omg.eq_1]; exact (j2h ns 1 p).2
 | d + 1, p => by
   rw [omg, omg]
   exact j8l (omg_dec ns d) _ _ _ (Int.le_refl _)
theorem j9z (ns : List NT) (d p : Nat) : ∀ e, omg ns (d + e) p ≤ omg ns d p
 | 0 => Int.le_refl _
 | e + 1 => Int.le_trans (omg_dec ns (d + e) p) (j9z ns d p e)
theorem omg_one (ns : List NT) (p : Nat) : ∀ (b d : Nat), omg ns d p ≤ (b : Int) → ∃ D, ∀ e, omg ns (D + e) p = omg ns D p
 | 0, d, h => by have := (j2h ns d p).1; omega
 | b + 1, d, h => by
   by_cases hs : ∀ e, omg ns (d + e) p = omg ns d p
   · exact ⟨d, hs⟩
   · obtain ⟨e, he⟩ := Classical.not_forall.1 hs
     have := j9z ns d p e
     exact omg_one ns p b (d + e) (by omega)
theorem omg_all (ns : List NT) : ∀ N : Nat, ∃ D, ∀ p, p < N → ∀ e, omg ns (D + e) p = omg ns D p
 | 0 => ⟨0, fun p h => by omega⟩
 | N + 1 => by
   obtain ⟨D1, h1⟩ := omg_all ns N
   obtain ⟨D2, h2⟩ := omg_one ns N 1001 0 (by rw [omg]; decide)
   refine ⟨max D1 D2, fun p hp e => ?_⟩
   by_cases hpN : p < N
   · have a := h1 p hpN (max D1 D2 - D1 + e)
     have b := h1 p hpN (max D1 D2 - D1)
     rw [show D1 + (max D1 D2 - D1 + e) = max D1 D2 + e by omega] at a
     rw [show D1 + (max D1 D2 - D1) = max D1 D2 by omega] at b
     rw [a, b]
   · obtain rfl : p = N := by omega
     have a := h2 (max D1 D2 - D2 + e)
     have b := h2 (max D1 D2 - D2)
     rw [show D2 + (max D1 D2 - D2 + e) = max D1 D2 + e by omega] at a
     rw [show D2 + (max D1 D2 - D2) = max D1 D2 by omega] at b
     rw [a, b]
structure IsG (ns : List NT) (G : Nat → Int) : Prop where
 range : ∀ p, 1 ≤ G p ∧ G p ≤ 1001
 fix : ∀ p, p < ns.length → G p = q3p G (q2e ns p) 1
 top : ∀ S : Nat → Prop, (∀ q, S q → ∃ x ∈ q2e ns q, S x.type.toNat) → ∀ q, S q → G q = 1001
theorem omg_top (ns : List NT) (S : Nat → Prop) (hS : ∀ q, S q → ∃ x ∈ q2e ns q, S x.type.toNat) : ∀ (d q : Nat), S q → omg ns d q = 1001
 | 0, q, _ => by rw [omg]
 | d + 1, q, h => by
   rw [omg]
   obtain ⟨x, hx, hx2⟩ := hS q h
   exact j8n (fun q => (j2h ns d q).1) _ _ (by decide) (by decide) ⟨x, hx, omg_top ns S hS d _ hx2⟩
theorem exG (ns : List NT) (hr : ∀ p, ∀ x ∈ q2e ns p, x.type.toNat < ns.length) : ∃ G, IsG ns G := by
 obtain ⟨D, hD⟩ := omg_all ns ns.length
 refine ⟨omg ns D, fun p => j2h ns D p, fun p hp => ?_, fun S hS q hq => omg_top ns S hS D q hq⟩
 have h := hD p hp 1
 rw [← h, omg]
def Edge (ns : List NT) (p q : Nat) : Prop := ∃ x ∈ q2e ns p, x.type.toNat = q
inductive Way (ns : List NT) : Nat → Nat → Prop
 | one {p q : Nat} (h : Edge ns p q) : Way ns p q
 | step {p q r : Nat} (h : Edge ns p q) (w : Way ns q r) : Way ns p r
theorem Way.tail {ns : List NT} {p q r : Nat} (w : Way ns p q) (h : Edge ns q r) : Way ns p r := by
 induction w with
 | one h1 => exact .step h1 (.one h)
 | step h1 _ ih => exact .step h1 (ih h)
theorem IsG.cyc {ns : List NT} {G : Nat → Int} (h : IsG ns G) {p : Nat} (hp : Way ns p p) : G p = 1001 := by
 refine h.top (fun q => Way ns q p) (fun q hq => ?_) p hp
 cases hq with
 | one h1 =>
   obtain ⟨x, hx, he⟩ := h1
   exact ⟨x, hx, by rw [he]; exact hp⟩
 | step h1 w =>
   obtain ⟨x, hx, he⟩ := h1
   exact ⟨x, hx, by rw [he]; exact w⟩
structure Memo (ns : List NT) (G : Nat → Int) (kn : List Int) (p : Nat) : Prop where
 len : kn.length = ns.length
 ok : KnOk kn
 pos : ∀ (j : Nat) (v : Int), kn[j]? = some v → 0 < v → v = G j
 neg : ∀ (j : Nat) (v : Int), kn[j]? = some v → v < 0 → Way ns j p
structure Kept (ns : List NT) (G : Nat → Int) (kn kn' : List Int) : Prop where
 len : kn'.length = ns.length
 ok : KnOk kn'
 pos : ∀ (j : Nat) (v : Int), kn'[j]? = some v → 0 < v → v = G j
 neg : ∀ (j : Nat) (v : Int), kn'[j]? = some v → v < 0 → ∃ u, kn[j]? = some u ∧ u < 0
 cnt : kn'.count 0 ≤ kn.count 0
theorem z1w {ns : List NT} {G : Nat → Int} (hG : IsG ns G) (f : Nat → List Int → Int × List Int) (p : Nat) (c : Nat)
  (hf : ∀ (q : Nat) (kn : List Int), q < ns.length → Memo ns G kn q → kn.count 0 < c → (f q kn).1 = G q ∧ Kept ns G kn (f q kn).2) :
  ∀ (xs : List FT) (n : Int) (kn0 kn : List Int), (∀ x ∈ xs, x.type.toNat < ns.length ∧ Edge ns p x.type.toNat) → Kept ns G kn0 kn → (∀ (j : Nat) (v : Int), kn0[j]? = some v → v < 0 → j = p ∨ Way ns j p) → kn0.count 0 < c →
   (q3m f xs n kn).1 = q3p G xs n ∧ Kept ns G kn0 (q3m f xs n kn).2
 | [], n, kn0, kn, _, hk, _, _ => ⟨rfl, hk⟩
 | x :: xs, n, kn0, kn, hx, hk, hn, hc => by
   rw [q3m, q3p]
   obtain ⟨hxl, hxe⟩ := hx x (by simp)
   have hm : Memo ns G kn x.type.toNat := ⟨hk.len, hk.ok, hk.pos, fun j v hj hv => by
    obtain ⟨u, hu, hu0⟩ := hk.neg j v hj hv
    rcases hn j u hu hu0 with rfl | w
    · exact .one hxe
    · exact w.tail hxe⟩
   obtain ⟨h1, h2⟩ := hf x.type.toNat kn hxl hm (by have := hk.cnt; omega)
   rw [h1]
   exact z1w hG f p c hf xs _ kn0 _ (fun y hy => hx y (by simp [hy])) ⟨h2.len, h2.ok, h2.pos, fun j v hj hv => by
    obtain ⟨u, hu, hu0⟩ := h2.neg j v hj hv
    exact hk.neg j u hu hu0, by have := hk.cnt; have := h2.cnt; omega⟩ hn hc
theorem j2k {kn : List Int} {p j : Nat} {v w : Int} (h : (kn.set p w)[j]? = some v) : (j = p ∧ v = w) ∨ (j ≠ p ∧ kn[j]? = some v) := by
 rw [List.getElem?_set] at h
 split at h
 · rename_i hp
   split at h
   · exact .inl ⟨hp.symm, (Option.some.inj h).symm⟩
   · simp at h
 · rename_i hp
   exact .inr ⟨fun e => hp e.symm, h⟩
theorem j6j {ns : List NT} {G : Nat → Int} (hG : IsG ns G) (hr : ∀ p, ∀ x ∈ q2e ns p, x.type.toNat < ns.length) : ∀ (d p : Nat) (kn : List Int), p < ns.length → Memo ns G kn p → kn.count 0 < d → (q2d ns d p kn).1 = G p ∧ Kept ns G kn (q2d ns d p kn).2
 | 0, p, kn, _, _, h => by omega
 | d + 1, p, kn, hp, hm, hc => by
   obtain ⟨v, hv⟩ : ∃ v, kn[p]? = some v := ⟨kn[p]'(by rw [hm.len]; exact hp), List.getElem?_eq_getElem _⟩
   have hself : Kept ns G kn kn := ⟨hm.len, hm.ok, hm.pos, fun j u hj hu => ⟨u, hj, hu⟩, Nat.le_refl _⟩
   rw [q2d, knAt_of hv]
   split
   · rename_i h0
     exact ⟨(hG.cyc (hm.neg p v hv h0)).symm, hself⟩
   · split
     · rename_i h0 h1
       exact ⟨hm.pos p v hv h1, hself⟩
     · rename_i h0 h1
       obtain rfl : v = 0 := by omega
       have hct := j7s (v := -1) hv (by decide)
       have hk1 : Kept ns G (kn.set p (-1)) (kn.set p (-1)) := ⟨by rw [List.length_set]; exact hm.len, hm.ok.set p (by decide), fun j u hj hu => by
        rcases j2k hj with ⟨_, rfl⟩ | ⟨_, h⟩
        · omega
        · exact hm.pos j u h hu, fun j u hj hu => ⟨u, hj, hu⟩, Nat.le_refl _⟩
       obtain ⟨h2, h3⟩ := z1w hG (q2d ns d) p d (fun q kn hq hmq hcq => j6j hG hr d q kn hq hmq hcq) (q2e ns p) 1 (kn.set p (-1)) (kn.set p (-1)) (fun x hx => ⟨hr p x hx, x, hx, rfl⟩) hk1 (fun j u hj hu => by
        rcases j2k hj with ⟨e, _⟩ | ⟨_, h⟩
        · exact .inl e
        · exact .inr (hm.neg j u h hu)) (by omega)
       simp only []
       rw [h2, ← hG.fix p hp]
       have hGp := hG.range p
       have c2 := j4p (kn := (q3m (q2d ns d) (q2e ns p) 1 (kn.set p (-1))).2) p (v := G p) (by omega)
       refine ⟨rfl, by rw [List.length_set]; exact h3.len, h3.ok.set p (by omega), fun j u hj hu => ?_, fun j u hj hu => ?_, by have := h3.cnt; omega⟩
       · rcases j2k hj with ⟨rfl, rfl⟩ | ⟨_, h⟩
         · rfl
         · exact h3.pos j u h hu
       · rcases j2k hj with ⟨_, rfl⟩ | ⟨hne, h⟩
         · omega
         · obtain ⟨w, hw, hw0⟩ := h3.neg j u h hu
           rcases j2k hw with ⟨e, _⟩ | ⟨_, h'⟩
           · exact absurd e hne
           · exact ⟨w, h', hw0⟩
theorem j9r {ns : List NT} {G : Nat → Int} {kn : List Int} (h1 : kn.length = ns.length) (h2 : KnOk kn) (h3 : ∀ (j : Nat) (v : Int), kn[j]? = some v → 0 < v → v = G j) (h4 : ∀ (j : Nat) (v : Int), kn[j]? = some v → ¬ v < 0) (p : Nat) : Memo ns G kn p :=
 ⟨h1, h2, h3, fun j v hj hv => absurd hv (h4 j v hj)⟩
def wOf (ns : List NT) (p : Nat) : Int := (q2d ns (ns.length + 1) p (List.replicate ns.length 0)).1
theorem wOf_G {ns : List NT} {G : Nat → Int} (hG : IsG ns G) (hr : ∀ p, ∀ x ∈ q2e ns p, x.type.toNat < ns.length) {p : Nat} (hp : p < ns.length) : wOf ns p = G p := by
 have hz : ∀ (j : Nat) (v : Int), (List.replicate ns.length (0 : Int))[j]? = some v → v = 0 := fun j v hj => (List.mem_replicate.1 (List.mem_of_getElem? hj)).2
 refine (j6j hG hr (ns.length + 1) p _ hp (j9r (by simp) (fun x hx => by obtain rfl := (List.mem_replicate.1 hx).2; decide) (fun j v hj hv => ?_) (fun j v hj => ?_) p) ?_).1
 · have := hz j v hj; omega
 · have := hz j v hj; omega
 · have := List.count_le_length (a := (0 : Int)) (l := List.replicate ns.length 0); simp at this ⊢

/-! Names by their last dot. -/
def dotA : Nat → Int → List UInt8 → Int
 | _, a, [] => a
 | i, a, c :: cs => dotA (i + 1) (if c = 46 then (i : Int) else a) cs
def dotI (s : List UInt8) : Int := dotA 0 (-1) s
theorem j7u : ∀ (l : List UInt8) (i : Nat) (a : Int), (46 ∉ l ∧ dotA i a l = a) ∨ ∃ j : Nat, j < l.length ∧ l[j]? = some 46 ∧ 46 ∉ l.drop (j + 1) ∧ dotA i a l = ((i + j : Nat) : Int)
 | [], i, a => .inl ⟨by simp, rfl⟩
 | c :: cs, i, a => by
   rw [dotA]
   rcases j7u cs (i + 1) (if c = 46 then (i : Int) else a) with ⟨h1, h2⟩ | ⟨j, h0, h1, h2, h3⟩
   · by_cases hc : c = 46
     · rw [if_pos hc] at h2 ⊢
       exact .inr ⟨0, by simp, by simp [hc], by simpa using h1, by rw [h2]; simp⟩
     · rw [if_neg hc] at h2 ⊢
       refine .inl ⟨?_, h2⟩
       intro hm
       rcases List.mem_cons.1 hm with e | hm
       · exact hc e.symm
       · exact h1 hm
   · exact .inr ⟨j + 1, by simp; omega, by simpa using h1, by simpa using h2, by rw [h3]; congr 1; omega⟩
theorem j27 (l : List UInt8) : (46 ∉ l ∧ dotI l = -1) ∨ ∃ j : Nat, j < l.length ∧ dotI l = (j : Int) ∧ l = l.take j ++ 46 :: l.drop (j + 1) ∧ 46 ∉ l.drop (j + 1) := by
 rcases j7u l 0 (-1) with h | ⟨j, h0, h1, h2, h3⟩
 · exact .inl h
 · refine .inr ⟨j, h0, by rw [dotI, h3]; simp, ?_, h2⟩
   obtain ⟨hlt, he⟩ := List.getElem?_eq_some_iff.1 h1
   conv => lhs; rw [← List.take_append_drop j l, List.drop_eq_getElem_cons hlt, he]
/-! Nodes that are met. -/
/-! Weights by rounds. -/
theorem z0n {ns : List NT} {G : Nat → Int} (hG : IsG ns G) (hr : ∀ p, ∀ x ∈ q2e ns p, x.type.toNat < ns.length) : ∀ (r : List NT) (p : Nat) (kn : List Int), p + r.length = ns.length → kn.length = ns.length → KnOk kn → (∀ (j : Nat) (v : Int), kn[j]? = some v → 0 < v → v = G j) → (∀ (j : Nat) (v : Int), kn[j]? = some v → ¬ v < 0) →
  (q56 ns r p kn = true ↔ (∀ n ∈ r, q2h ns n = true) ∧ ∀ i, p ≤ i → i < ns.length → G i ≤ 1000)
 | [], p, kn, hl, _, _, _, _ => by
   simp at hl
   simp only [q56, true_iff]
   exact ⟨by simp, fun i h1 h2 => by omega⟩
 | n :: r, p, kn, hl, h1, h2, h3, h4 => by
   rw [q56]
   simp only [Bool.and_eq_true, decide_eq_true_eq]
   simp at hl
   have hc := List.count_le_length (a := (0 : Int)) (l := kn)
   obtain ⟨e, hk⟩ := j6j hG hr (ns.length + 1) p kn (by omega) (j9r h1 h2 h3 h4 p) (by omega)
   rw [e, z0n hG hr r (p + 1) _ (by omega) hk.len hk.ok hk.pos (fun j v hj hv => by
       obtain ⟨u, hu, hu0⟩ := hk.neg j v hj hv
       exact h4 j u hu hu0)]
   constructor
   · rintro ⟨a, b, c, d⟩
     refine ⟨fun m hm => ?_, fun i hi hi2 => ?_⟩
     · rcases List.mem_cons.1 hm with rfl | hm
       · exact a
       · exact c m hm
     · by_cases hip : i = p
       · rw [hip]; exact b
       · exact d i (by omega) hi2
   · rintro ⟨a, b⟩
     exact ⟨a n (by simp), b p (Nat.le_refl _) (by omega), fun m hm => a m (by simp [hm]), fun i hi hi2 => b i (by omega) hi2⟩
theorem rightM_eq {s : ST} {G : Nat → Int} (hG : IsG s.nodes G) (hr : ∀ p, ∀ x ∈ q2e s.nodes p, x.type.toNat < s.nodes.length) :
  q7k s = true ↔ q27 s = true ∧ (∀ n ∈ s.nodes, q2h s.nodes n = true) ∧ (∀ i, i < s.nodes.length → G i ≤ 1000) ∧ (q2w s.nodes).Nodup := by
 have hz : ∀ (j : Nat) (v : Int), (List.replicate s.nodes.length (0 : Int))[j]? = some v → v = 0 := fun j v hj => (List.mem_replicate.1 (List.mem_of_getElem? hj)).2
 have h := z0n hG hr s.nodes 0 (List.replicate s.nodes.length 0) (by simp) (by simp) (fun x hx => by obtain rfl := (List.mem_replicate.1 hx).2; decide) (fun j v hj hv => by have := hz j v hj; omega) (fun j v hj => by have := hz j v hj; omega)
 unfold q7k q3v
 simp only [Bool.and_eq_true, decide_eq_true_eq, h, List.all_eq_true]
 constructor
 · rintro ⟨a, ⟨b, c⟩, d, e⟩
   exact ⟨a, b, fun i hi => c i (Nat.zero_le _) hi, e⟩
 · rintro ⟨a, b, c, d⟩
   refine ⟨a, ⟨b, fun i _ hi => c i hi⟩, fun x hx => ?_, d⟩
   obtain ⟨n, hn, rfl⟩ := List.mem_map.1 hx
   obtain ⟨hn1, hn2⟩ := List.mem_filter.1 hn
   have := b n hn1
   unfold q2h at this
   simp only [Bool.and_eq_true] at this
   have h2 := this.2.1
   rw [hn2] at h2
   simp only [Bool.not_true, Bool.false_or, Bool.and_eq_true] at h2
   exact h2.1

def q7n (s : List UInt8) : JT := .mk 4 0 s [] []
def q20 (l : List JT) : JT := .mk 5 0 [] [] l
def objJ (l : List (List UInt8 × JT)) : JT := .mk 6 0 [] (l.map Prod.fst) (l.map Prod.snd)
def q2f (s : List UInt8) : List UInt8 := s.take (dotI s).toNat
def q05 : List UInt8 := [110, 97, 109, 101]
def q0o : List UInt8 := [116, 121, 112, 101]
def q1t : List UInt8 := [110, 97, 109, 101, 115, 112, 97, 99, 101]
def q1f : List UInt8 := [97, 108, 105, 97, 115, 101, 115]
def q17 : List UInt8 := [100, 101, 102, 97, 117, 108, 116]
def q0z : List UInt8 := [102, 105, 101, 108, 100, 115]
def q1y : List UInt8 := [115, 121, 109, 98, 111, 108, 115]
def q1w : List UInt8 := [115, 105, 122, 101]
def q7u : List UInt8 := [105, 116, 101, 109, 115]
def q7v : List UInt8 := [118, 97, 108, 117, 101, 115]
theorem dotI_no {s : List UInt8} (h : 46 ∉ s) : dotI s = -1 := by
 rcases j27 s with ⟨_, h2⟩ | ⟨j, hj, h2, h3, h4⟩
 · exact h2
 · exact absurd (by rw [h3]; simp) h
theorem dotI_at {s : List UInt8} {j : Nat} (h : s[j]? = some 46) (hd : 46 ∉ s.drop (j + 1)) : dotI s = (j : Int) := by
 rcases j27 s with ⟨h1, _⟩ | ⟨i, hi, h2, h3, h4⟩
 · exact absurd (List.mem_of_getElem? h) h1
 · rw [h2]
   have hx : s[i]? = some 46 := by
    have e : s[i]? = (s.take i ++ 46 :: s.drop (i + 1))[i]? := congrArg (fun l => l[i]?) h3
    rw [e, List.getElem?_append_right (by simp; omega)]
    simp [Nat.min_eq_left (Nat.le_of_lt hi)]
   have key : ∀ a b : Nat, s[b]? = some 46 → 46 ∉ s.drop (a + 1) → ¬ a < b := fun a b hb ha hlt => by
    apply ha
    apply List.mem_of_getElem? (i := b - (a + 1))
    rw [List.getElem?_drop, show a + 1 + (b - (a + 1)) = b by omega]
    exact hb
   have k1 := key j i hx hd
   have k2 := key i j h h4
   omega
theorem space_no {s : List UInt8} (h : dotI s = -1) : q2f s = [] := by rw [q2f, h]; simp
theorem space_at {s : List UInt8} {j : Nat} (h : dotI s = (j : Int)) : q2f s = s.take j := by rw [q2f, h]; simp

abbrev HN := Int × List UInt8
def q0k (n : NT) : HN := (n.kind, n.name)
def isH (name : List UInt8) (h : HN) : Bool := q00 h.1 && h.2 == name
def q1v (hs : List HN) (name : List UInt8) : Int := match hs.findIdx? (isH name) with | some i => (i : Int) | none => -1
def q2v (hs : List HN) (k : Nat) : Int := match hs[k]? with | some h => h.1 | none => 0
theorem kindH_of (ns : List NT) (k : Nat) : q2c ns k = q2v (ns.map q0k) k := by
 unfold q2c q2v
 rw [List.getElem?_map]
 cases ns[k]? <;> rfl
def q1q (sp name : List UInt8) : Option (List UInt8) :=
 if 0 ≤ dotI name then (if q2n name = true then some name else none)
 else if q1b name = false then none
 else if sp = [] then (if q2n name = true then some name else none)
 else if q2n (sp ++ 46 :: name) = true then some (sp ++ 46 :: name) else none
abbrev BR := Except Int
def q6i (j : JT) (key : List UInt8) : BR (List UInt8) := match jget j key with
 | some x => if x.kd = 4 then .ok x.txt else .error 30
 | none => .error 30
def tlB : List JT → BR (List (List UInt8))
 | [] => .ok []
 | x :: xs => if x.kd = 4 then (match tlB xs with | .ok l => .ok (x.txt :: l) | .error e => .error e) else .error 30
def q53 (x : JT) : BR (List (List UInt8)) := if x.kd ≠ 5 then .error 30 else match tlB x.its with
 | .ok l => if 40 < l.length then .error 3 else .ok l
 | .error e => .error e
def mapB (full : List UInt8 → Option (List UInt8)) : List (List UInt8) → BR (List (List UInt8))
 | [] => .ok []
 | s :: l => match full s with
   | none => .error 31
   | some t => match mapB full l with | .ok r => .ok (t :: r) | .error e => .error e
def q5t (full : List UInt8 → Option (List UInt8)) (j : JT) : BR (List (List UInt8)) := match jget j q1f with
 | none => .ok []
 | some x => match q53 x with | .ok l => mapB full l | .error e => .error e
def q3q (hs : List HN) (n : NT) : BR (List NT × Int) := if 200 ≤ hs.length then .error 3 else .ok ([n], (hs.length : Int))
def q1d (k : Int) : NT := ⟨k, [], [], [], [], false, [], 0, 0, []⟩
def q3y (hs : List HN) (w a : List UInt8) : BR (List NT × Int) :=
 if 1 ≤ q0p w ∧ q0p w ≤ 8 then q3q hs (q1d (q0p w)) else match q1q a w with
 | none => .error 31
 | some f => if q1v hs f < 0 then .error 33 else .ok ([], q1v hs f)
def j38 (j : JT) (a : List UInt8) : BR (List UInt8) := match jget j q1t with | none => .ok a | some _ => q6i j q1t
def q88 (s : List UInt8) : Option (List UInt8) := if q1b s = true then some s else none
def q4k (hs : List HN) (j : JT) (k : Int) (a : List UInt8) : BR NT := match q6i j q05 with
 | .error e => .error e
 | .ok name => match j38 j a with
   | .error e => .error e
   | .ok sp => match q1q sp name with
     | none => .error 31
     | some f => if q0p f ≠ 0 then .error 31 else if 0 ≤ q1v hs f then .error 32 else match q5t (q1q (q2f f)) j with
       | .error e => .error e
       | .ok l => .ok ⟨k, f, l, [], [], false, [], 0, 0, []⟩
def q4s (x : JT) (l : List FT) : BR FT := if x.kd ≠ 6 then .error 30 else match q6i x q05 with
 | .error e => .error e
 | .ok name => if q1b name = false then .error 31 else if (l.any fun f => f.name == name) = true then .error 36 else match q5t q88 x with
   | .error e => .error e
   | .ok a => if (jget x q0o).isNone then .error 30 else .ok ⟨name, a, 0, (jget x q17).isSome, (jget x q17).getD q2b⟩
def q4q (hs : List HN) (l : List Int) (k : Int) : Bool := q2v hs k.toNat != 13 && !l.any fun o => o == k || (!q00 (q2v hs k.toNat) && q2v hs o.toNat == q2v hs k.toNat)
abbrev q1e := List HN → JT → List UInt8 → BR (List NT × Int)
def q14 (f : q1e) (hs : List HN) (a : List UInt8) : List JT → List Int → List NT → BR (List Int × List NT)
 | [], ks, new => .ok (ks, new)
 | x :: xs, ks, new => match f (hs ++ new.map q0k) x a with
   | .error e => .error e
   | .ok (m, k) => if q4q (hs ++ (new ++ m).map q0k) ks k = true then q14 f hs a xs (ks ++ [k]) (new ++ m) else .error 34
def q18 (f : q1e) (hs : List HN) (a : List UInt8) : List JT → List FT → List NT → BR (List FT × List NT)
 | [], fs, new => .ok (fs, new)
 | x :: xs, fs, new => match q4s x fs with
   | .error e => .error e
   | .ok g => match f (hs ++ new.map q0k) ((jget x q0o).getD q2b) a with
     | .error e => .error e
     | .ok (m, k) => q18 f hs a xs (fs ++ [{ g with type := k }]) (new ++ m)
def q5l : List (List UInt8) → List (List UInt8) → BR Unit
 | _, [] => .ok ()
 | done, s :: l => if q1b s = false then .error 31 else if s ∈ done then .error 36 else q5l (done ++ [s]) l
def q4r (hs : List HN) (j : JT) (n : NT) : BR (List NT × Int) := match q53 ((jget j q1y).getD q2b) with
 | .error e => .error e
 | .ok l => if l = [] then .error 30 else match q5l [] l with
   | .error e => .error e
   | .ok _ => match jget j q17 with
     | none => q3q hs { n with symbols := l }
     | some _ => match q6i j q17 with
       | .error e => .error e
       | .ok d => if d ∈ l then q3q hs { n with symbols := l, has := true, dflt := d } else .error 35
def q45 (hs : List HN) (j : JT) (n : NT) : BR (List NT × Int) :=
 if ((jget j q1w).getD q2b).kd ≠ 3 then .error 30 else if ((jget j q1w).getD q2b).num < 0 ∨ 1000 < ((jget j q1w).getD q2b).num then .error 3 else q3q hs { n with size := ((jget j q1w).getD q2b).num }
def q32 (f : q1e) (hs : List HN) (j : JT) (n : NT) : BR (List NT × Int) :=
 if ((jget j q0z).getD q2b).kd ≠ 5 then .error 30 else if 40 < ((jget j q0z).getD q2b).its.length then .error 3 else if 200 ≤ hs.length then .error 3
 else match q18 f (hs ++ [q0k n]) (q2f n.name) ((jget j q0z).getD q2b).its [] [] with
  | .error e => .error e
  | .ok (fs, new) => .ok ({ n with fields := fs } :: new, (hs.length : Int))
def q3x (f : q1e) (hs : List HN) (l : List JT) (a : List UInt8) : BR (List NT × Int) :=
 if l.length < 1 ∨ 10 < l.length then .error 34 else if 200 ≤ hs.length then .error 3
 else match q14 f (hs ++ [(13, [])]) a l [] [] with
  | .error e => .error e
  | .ok (ks, new) => .ok ({ q1d 13 with branches := ks } :: new, (hs.length : Int))
def q3f (f : q1e) (hs : List HN) (j : JT) (k : Int) (key a : List UInt8) : BR (List NT × Int) := match jget j key with
 | none => .error 30
 | some x => if 200 ≤ hs.length then .error 3 else match f (hs ++ [(k, [])]) x a with
   | .error e => .error e
   | .ok (new, i) => .ok ({ q1d k with items := i } :: new, (hs.length : Int))
def q38 (f : q1e) (hs : List HN) (j : JT) (a : List UInt8) : BR (List NT × Int) := match q6i j q0o with
 | .error e => .error e
 | .ok w => if q0p w = 11 then q3f f hs j 11 q7u a else if q0p w = 12 then q3f f hs j 12 q7v a
   else if q00 (q0p w) = true then (match q4k hs j (q0p w) a with
    | .error e => .error e
    | .ok n => if q0p w = 9 then q32 f hs j n else if q0p w = 10 then q4r hs j n else q45 hs j n)
   else q3y hs w a
def q1s : Nat → q1e
 | 0 => fun _ _ _ => .error 30
 | d + 1 => fun hs j a => if j.kd = 4 then q3y hs j.txt a else if j.kd = 5 then q3x (q1s d) hs j.its a else if j.kd = 6 then q38 (q1s d) hs j a else .error 30
noncomputable def q3d (j : JT) : BR ST := if jR j = true then (match q1s 33 [] j [] with | .error e => .error e | .ok (ns, _) => .ok ⟨ns, 0⟩) else .error 2

theorem bareM_eq (n : NT) : q4p n = (!(if q00 n.kind = true then false else (!(n.name == []) || decide ((n.aliases.length : Int) > 0))) && (!(if n.kind == 9 then false else decide ((n.fields.length : Int) > 0)) &&
  (!(if n.kind == 10 then false else (decide ((n.symbols.length : Int) > 0) || n.has || !(n.dflt == []))) && (!(if n.kind == 14 then false else n.size != 0) && (!(if (n.kind == 11) = true ∨ (n.kind == 12) = true then false else n.items != 0) && !(if n.kind == 13 then false else decide ((n.branches.length : Int) > 0))))))) := by
 have e0 : ∀ l : List UInt8, l.isEmpty = (l == []) := fun l => by cases l <;> rfl
 have e1 : ∀ {α : Type} (l : List α), l.isEmpty = !decide ((l.length : Int) > 0) := fun l => by
  cases l with
  | nil => rfl
  | cons x l => simp
 unfold q4p
 rw [e0 n.name, e0 n.dflt, e1 n.aliases, e1 n.fields, e1 n.symbols, e1 n.branches]
 cases q00 n.kind <;> cases (n.kind == 9) <;> cases (n.kind == 10) <;> cases (n.kind == 14) <;> cases (n.kind == 11) <;> cases (n.kind == 12) <;> cases (n.kind == 13) <;> simp [bne, Bool.and_assoc]
theorem bare_told (n : NT) : Told Tryz.prog 92 [n.av] (.c (.v (.bool (q4p n)))) := by
 obtain ⟨V, hV⟩ : ∃ V, V = q4p n := ⟨_, rfl⟩
 rw [← hV]
 rw [bareM_eq] at hV
 have hN := q7g n.kind
 have hE : (⟨#[]⟩ : ByteArray).toList = [] := q3i []
 rw [NT.av_eq, q4c]
 refine VC.toldP ent_92 Tryz.func92 rfl Tryz.ntmps92 fun hb => ?_
 clear hb
 refine q0d (And.intro @q3i hE) ?_
 obtain ⟨p1, hp1⟩ : ∃ p : Bool, p = (!(n.name == []) || decide ((n.aliases.length : Int) > 0)) := ⟨_, rfl⟩
 obtain ⟨p2, hp2⟩ : ∃ p : Bool, p = decide ((n.fields.length : Int) > 0) := ⟨_, rfl⟩
 obtain ⟨p3, hp3⟩ : ∃ p : Bool, p = (decide ((n.symbols.length : Int) > 0) || n.has || !(n.dflt == [])) := ⟨_, rfl⟩
 obtain ⟨p4, hp4⟩ : ∃ p : Bool, p = (n.size != 0) := ⟨_, rfl⟩
 obtain ⟨p5, hp5⟩ : ∃ p : Bool, p = (n.items != 0) := ⟨_, rfl⟩
 obtain ⟨p6, hp6⟩ : ∃ p : Bool, p = decide ((n.branches.length : Int) > 0) := ⟨_, rfl⟩
 rw [← hp1, ← hp2, ← hp3, ← hp4, ← hp5, ← hp6] at hV ⊢
 clear hp1 hp2 hp3 hp4 hp5 hp6
 refine q0h (hN) ?_
 by_cases h9 : n.kind = 9
 · rw [h9] at hV ⊢
   have hv : V = (!p3 && !p4 && !p5 && !p6) := by rw [hV]; simp [q00, Bool.and_assoc]
   clear hV
   have hn : q00 9 = true := rfl
   refine q06 (hn) ?_
   refine retX Tryz.results92 ?_
   refine q2m ?_
   rw [hv]
   try simp [Bool.and_assoc]
 by_cases h10 : n.kind = 10
 · rw [h10] at hV ⊢
   have hv : V = (!p2 && !p4 && !p5 && !p6) := by rw [hV]; simp [q00, Bool.and_assoc]
   clear hV
   have hn : q00 10 = true := rfl
   refine q06 (hn) ?_
   refine retX Tryz.results92 ?_
   refine q2m ?_
   rw [hv]
   try simp [Bool.and_assoc]
 by_cases h14 : n.kind = 14
 · rw [h14] at hV ⊢
   have hv : V = (!p2 && !p3 && !p5 && !p6) := by rw [hV]; simp [q00, Bool.and_assoc]
   clear hV
   have hn : q00 14 = true := rfl
   refine q06 (hn) ?_
   refine retX Tryz.results92 ?_
   refine q2m ?_
   rw [hv]
   try simp [Bool.and_assoc]
 by_cases h11 : n.kind = 11
 · rw [h11] at hV ⊢
   have hv : V = (!p1 && !p2 && !p3 && !p4 && !p6) := by rw [hV]; simp [q00, Bool.and_assoc]
   clear hV
   have hn : q00 11 = false := rfl
   refine q06 (hn) ?_
   refine retX Tryz.results92 ?_
   refine q2m ?_
   rw [hv]
   try simp [Bool.and_assoc]
 by_cases h12 : n.kind = 12
 · rw [h12] at hV ⊢
   have hv : V = (!p1 && !p2 && !p3 && !p4 && !p6) := by rw [hV]; simp [q00, Bool.and_assoc]
   clear hV
   have hn : q00 12 = false := rfl
   refine q06 (hn) ?_
   refine retX Tryz.results92 ?_
   refine q2m ?_
   rw [hv]
   try simp [Bool.and_assoc]
 by_cases h13 : n.kind = 13
 · rw [h13] at hV ⊢
   have hv : V = (!p1 && !p2 && !p3 && !p4 && !p5) := by rw [hV]; simp [q00, Bool.and_assoc]
   clear hV
   have hn : q00 13 = false := rfl
   refine q06 (hn) ?_
   refine retX Tryz.results92 ?_
   refine q2m ?_
   rw [hv]
   try simp [Bool.and_assoc]
 · have e9 : (n.kind == 9) = false := by simpa using h9
   have e10 : (n.kind == 10) = false := by simpa using h10
   have e14 : (n.kind == 14) = false := by simpa using h14
   have e11 : (n.kind == 11) = false := by simpa using h11
   have e12 : (n.kind == 12) = false := by simpa using h12
   have e13 : (n.kind == 13) = false := by simpa using h13
   have hn : q00 n.kind = false := by simp [q00, h9, h10, h14]
   have hv : V = (!p1 && !p2 && !p3 && !p4 && !p5 && !p6) := by rw [hV, hn]; simp [h9, h10, h14, h11, h12, h13, Bool.and_assoc]
   clear hV
   rw [hn]
   refine q06 (And.intro e9 (And.intro e10 (And.intro e14 (And.intro e11 (And.intro e12 e13))))) ?_
   refine retX Tryz.results92 ?_
   refine q2m ?_
   rw [hv]

theorem z5k (h : Nat → Option Blkd) : View h (.agg [.c (.v (.int .i64 0)), .c (.v (.int .i64 0)), .c (.v (.string ⟨#[]⟩)), .c (.v (.slice none 0 0)), .c (.v (.slice none 0 0))]) q2b.av := by
 refine .agg rfl fun k x y h1 h2 => ?_
 match k with
 | 0 => obtain rfl := Option.some.inj h1; obtain rfl := Option.some.inj h2; exact .same _
 | 1 => obtain rfl := Option.some.inj h1; obtain rfl := Option.some.inj h2; exact .same _
 | 2 => obtain rfl := Option.some.inj h1; obtain rfl := Option.some.inj h2; exact .same _
 | 3 => obtain rfl := Option.some.inj h1; obtain rfl := Option.some.inj h2; exact .nil 5
 | 4 => obtain rfl := Option.some.inj h1; obtain rfl := Option.some.inj h2; exact .nil 1
 | k + 5 => simp at h1
theorem fieldM_eq (f : FT) : q44 f = !((!allM q1b f.aliases || f.has && !jR f.dflt) || !f.has && !jeq f.dflt q2b) := by
 unfold q44
 cases f.has <;> simp
theorem z3i (l : List FT) (hl : l.length ≤ 1000000) (hs : ∀ f ∈ l, f.sm 1000000) : Told Tryz.prog 95 [.c (.sl 9 (l.map FT.cells))] (.c (.v (.bool (q69 l)))) := by
 obtain ⟨V, hV⟩ : ∃ V, V = q69 l := ⟨_, rfl⟩
 rw [← hV]
 refine VC.toldP ent_95 Tryz.func95 rfl Tryz.ntmps95 fun hb => ?_
 clear hb
 refine q0c ?_
 refine VC.nil 3 9 1 (by rfl) (by trivial) (by rfl) ?_
 refine VC.loop (ι := {i : Nat // i ≤ l.length ∧ ∀ (j : Nat) (f : FT), j < i → l[j]? = some f → q44 f = true}) (fun q => [(0, .c (.sl 9 (l.map FT.cells))), (3, .row 40 q.1), (6, .c (.sl 9 (l.map FT.cells))), (7, .c (.v (.int .i64 (l.length : Int)))), (8, .c (.v (.int .i64 (q.1 : Int))))])
  (fun q => [(40, ⟨true, 9, 1, rA sPV ((l.map (·.name)).take q.1)⟩)]) 800 (fun q => l.length - q.1) ⟨0, Nat.zero_le _, fun j f h => by omega⟩ ?_ ?_
 · exact weakZF (And.intro @q0a (And.intro @q0i @q60))
 rintro ⟨i, hi, ht⟩
 simp only []
 refine q0c ?_
 refine VC.cond (by rfl) (by trivial) (fun hc => ?_) (fun hc => ?_)
 · have hlt : i < l.length := by simp at hc; omega
   obtain ⟨f, hx⟩ : ∃ f, l[i]? = some f := ⟨l[i], List.getElem?_eq_getElem hlt⟩
   have hw : IntKind.i64.wrap ((i : Int) + 1) = (i : Int) + 1 := q1g (by omega) (by omega)
   have hxp : (l.map FT.cells)[i]? = some f.cells := by rw [List.getElem?_map, hx]; rfl
   have hln : (rA sPV ((l.map (·.name)).take i)).length = i := by rw [q0a]; simp; omega
   have hr : rA sPV ((l.map (·.name)).take i) ++ [[.c (.v (.string (str f.name)))]] = rA sPV ((l.map (·.name)).take (i + 1)) := by
    rw [List.take_add_one, List.getElem?_map, hx]
    exact q83 sPV _ f.name
   have hl2 : (rA sPV ((l.map (·.name)).take (i + 1))).length = i + 1 := by rw [q0a]; simp; omega
   obtain ⟨hn1, ha1, ha2, hd⟩ := hs f (List.mem_of_getElem? hx)
   have hA := j65 (g := 97) (rule := q1b) f.aliases fun x hx => q7l x (by have := ha2 x hx; omega)
   have hR := j5d f.dflt (sm_le (by omega) _ hd)
   have hS := same_told _ f.dflt q2b (Nat.le_refl _)
   simp only [JT.av] at hR
   have hM := fieldM_eq f
   obtain ⟨b1, hb1⟩ : ∃ b, b = allM q1b f.aliases := ⟨_, rfl⟩
   obtain ⟨b2, hb2⟩ : ∃ b, b = jR f.dflt := ⟨_, rfl⟩
   obtain ⟨b3, hb3⟩ : ∃ b, b = jeq f.dflt q2b := ⟨_, rfl⟩
   rw [← hb1, ← hb2, ← hb3] at hM
   rw [← hb1] at hA
   rw [← hb2] at hR
   rw [← hb3] at hS
   replace hM := Lib.hid hM
   clear hb1 hb2 hb3 ha1 ha2 hd
   refine q0d (And.intro hxp (And.intro @q8g (And.intro @q2o (And.intro @q3a (And.intro @q2y (And.intro hln hr)))))) ?_
   refine q0h (hA) ?_
   refine q0d (And.intro @q8g (And.intro @q2o (And.intro @q3a @q2y))) ?_
   refine j4c (@q2q) (hR) ?_
   refine q0d (And.intro @q8g (And.intro @q2o (And.intro @q3a @q2y))) ?_
   (refine AO.step fun K hK => ?_; simp only [go_sem, Int.reduceBEq, Int.reduceLE, Int.reduceLT, Int.reduceNeg, Nat.reduceAdd, Nat.reduceEqDiff, Nat.reduceLT, Nat.reduceLeDiff, Nat.reduceMul, Nat.reduceSub, reduceCtorEq, ↓reduceIte]; (first | refine q0g ?_ | skip))
   refine .inr (.inl ⟨.c (.v (.bool b3)), [f.dflt.av, q2b.av], [], fun hg => ⟨hg, by simp [AV.pureL, AV.pureB, JT.av, q2q], rfl, fun k x z h5 h6 => ?_, rfl, hS⟩, hK _ _ _ ?_⟩)
   · match k with
     | 0 => obtain rfl := Option.some.inj h5; obtain rfl := Option.some.inj h6; exact .same _
     | 1 => obtain rfl := Option.some.inj h5; obtain rfl := Option.some.inj h6; exact z5k _
     | k + 2 => simp at h5
   clear hK K
   refine q0c ?_
   refine VC.cond (by rfl) (by trivial) (fun hc2 => ?_) (fun hc2 => ?_)
   · have hf : V = false := by
      have : q44 f = false := by
       rw [hM.out, hc2]
       rfl
      have h2 : l.all q44 = false := by
       rw [List.all_eq_false]
       exact ⟨f, List.mem_of_getElem? hx, by simp [this]⟩
      rw [hV, q69, h2]
      rfl
     subst hf
     refine q0c ?_
     refine retX Tryz.results95 ?_
     exact .c _
   · have hft : q44 f = true := by
      rw [hM.out, hc2]
      rfl
     refine q0d (hw) ?_
     refine .next ⟨i + 1, by omega, ?_⟩ ?_ (by simp only []; omega)
     · intro j g hj hg
       by_cases hji : j < i
       · exact ht j g hji hg
       · obtain rfl : j = i := by omega
         rw [hx] at hg
         obtain rfl := Option.some.inj hg
         exact hft
     refine q3l (And.intro hl2 @q0i) ?_
     exact ⟨cI (by omega), Nat.le_refl _⟩
 · have hie : i = l.length := by simp at hc; omega
   have htk : (l.map (·.name)).take i = l.map (·.name) := List.take_of_length_le (by simp; omega)
   have hall : l.all q44 = true := by
    rw [List.all_eq_true]
    intro f hf
    obtain ⟨j, hj⟩ := List.getElem?_of_mem hf
    exact ht j f (by have := (List.getElem?_eq_some_iff.1 hj).1; omega) hj
   have hD := j4r (g := 97) (rule := q1b) (l.map (·.name)) (by simp; omega) fun x hx => by
    obtain ⟨f, hf, rfl⟩ := List.mem_map.1 hx
    exact q7l f.name (by have := (hs f hf).1; omega)
   have hv : V = (decide ((l.length : Int) ≤ 40) && q3v q1b (l.map (·.name))) := by
    rw [hV, q69, hall, Bool.true_and]
    congr 1
    simp
    omega
   clear hV
   replace hv := Lib.hid hv
   rw [htk]
   have hrl : (rA sPV (l.map (·.name))).length = i := by rw [q0a]; simp; omega
   refine q0d (hrl) ?_
   (refine AO.step fun K hK => ?_; simp only [go_sem, Int.reduceBEq, Int.reduceLE, Int.reduceLT, Int.reduceNeg, Nat.reduceAdd, Nat.reduceEqDiff, Nat.reduceLT, Nat.reduceLeDiff, Nat.reduceMul, Nat.reduceSub, reduceCtorEq, ↓reduceIte, hrl]; (first | refine q0g ?_ | skip))
   refine .inr (.inl ⟨.c (.v (.bool (q3v q1b (l.map (·.name))))), [.c (.sl 1 ((l.map (·.name)).map sPV)), .fn (.func 97) [] []], [40], fun hg => ⟨hg, by simp [AV.pureL, AV.pureB], rfl, fun k x z h5 h6 => ?_, rfl, hD⟩, hK _ _ _ ?_⟩)
   · match k with
     | 0 =>
       obtain rfl := Option.some.inj h5
       obtain rfl := Option.some.inj h6
       exact View.row (B := ⟨true, 9, 1, rA sPV (l.map fun f : FT => f.name)⟩) (es := (l.map fun f : FT => f.name).map sPV) rfl rfl hrl (q4v _ _)
     | 1 => obtain rfl := Option.some.inj h5; obtain rfl := Option.some.inj h6; exact .same _
     | k + 2 => simp at h5
   clear hK K
   refine q0c ?_
   refine retX Tryz.results95 ?_
   rw [hv.out]
   exact .c _

theorem ixfI_told {g : FuncId} {fs cs : List AV} (hp : AV.pureL fs = true) (hp' : AV.pureL cs = true) (l : List (Int)) (p : Int → Bool) (hk : ∀ x ∈ l, Told Tryz.prog g (fs ++ ([.c (.v (.int .i64 x))] ++ cs)) (.c (.v (.bool (p x))))) :
  Told Tryz.prog 182 [.c (.sl 1 (l.map iPV)), .fn (.func g) fs cs] (.c (.v (.int .i64 (idxP p l)))) := by
 refine VC.told ent_182 Tryz.func182 rfl Tryz.ntmps182 (by simp) (by simp [AV.pureB, AV.pureL, hp, hp']) rfl fun hb => ?_
 simp only [List.mem_cons, List.not_mem_nil, or_false, forall_eq_or_imp, forall_eq, q5b, q5h, List.length_map] at hb
 have h1 := hb.1.1
 clear hb
 refine q0c ?_
 refine VC.loop (ι := {i : Nat // i ≤ l.length ∧ ∀ j x, j < i → l[j]? = some x → p x = false}) (fun i => [(0, .c (.sl 1 (l.map iPV))), (1, .fn (.func g) fs cs), (7, .c (.v (.int .i64 l.length))), (8, .c (.v (.int .i64 i.1)))]) (fun _ => []) 0 (fun i => l.length - i.1) ⟨0, Nat.zero_le _, by intro j x hj; omega⟩ ?_ ?_
 · simp only [q22 hp, q22 hp', Weak, eq_self, q0x, q0r, sc_c, q0t, q0u, q0v, q0q, q0s, ScL, q0w, List.forall_mem_map, go_sem, Int.reduceBEq, Int.reduceLE, Int.reduceLT, Int.reduceNeg, Nat.reduceAdd, Nat.reduceEqDiff, Nat.reduceLT, Nat.reduceLeDiff, Nat.reduceMul, Nat.reduceSub, reduceCtorEq, ↓reduceIte]
   all_goals rfl
 rintro ⟨i, hi, ht⟩
 refine q0c ?_
 refine VC.cond (by rfl) (by trivial) (fun hc => ?_) (fun hc => ?_)
 · simp only [decide_eq_true_eq] at hc
   obtain ⟨x, hx⟩ : ∃ x, l[i]? = some x := ⟨l[i]'(by omega), List.getElem?_eq_getElem _⟩
   have hw : IntKind.i64.wrap ((i : Int) + 1) = (i : Int) + 1 := q1g (by omega) (by omega)
   have hkx := hk x (List.mem_of_getElem? hx)
   (repeat (first | refine pass ?_ | refine VC.region (by rfl) (by rfl) ?_ | (refine AO.step fun K hK => ?_; simp only [List.getElem?_map, hx, iPV, go_sem, Int.reduceBEq, Int.reduceLE, Int.reduceLT, Int.reduceNeg, Nat.reduceAdd, Nat.reduceEqDiff, Nat.reduceLT, Nat.reduceLeDiff, Nat.reduceMul, Nat.reduceSub, reduceCtorEq, ↓reduceIte]; (first | refine q07 ?_ | refine q0g ?_ | skip); (first | refine hK _ _ _ ?_ | refine ⟨by first | omega | exact ⟨_, rfl, rfl⟩ | exact fun _ => ⟨_, rfl, rfl⟩ | (intro h; simp only [List.getElem?_map, hx, iPV, h, true_and]; omega) | (clear hK; intro h; simp_all <;> omega), hK _ _ _ ?_⟩); clear hK K) | refine VC.draw mixP (by rfl) (by rfl) ?_ | refine ⟨q08 (by kernel_rfl), ?_⟩ | refine BQ.other (by decide) ?_ | refine VC.seq ?_ | refine AO.nil ?_ | refine VC.block ?_))
   ((refine AO.step fun K hK => ?_; simp only [go_sem, Int.reduceBEq, Int.reduceLE, Int.reduceLT, Int.reduceNeg, Nat.reduceAdd, Nat.reduceEqDiff, Nat.reduceLT, Nat.reduceLeDiff, Nat.reduceMul, Nat.reduceSub, reduceCtorEq, ↓reduceIte, iPV, hp, hp', q80, q2q, List.append_assoc]; (first | refine q0g ?_ | skip)); refine .inl ⟨_, hkx, hK _ _ _ ?_⟩; clear hK K)
   refine q0c ?_
   refine VC.cond (by rfl) (by trivial) (fun hpx => ?_) (fun hpx => ?_)
   · have hr := q8n hx hpx ht
     refine q0c ?_
     refine retX Tryz.results182 ?_
     rw [hr]
     exact .c _
   · refine q0d (hw) ?_
     refine .next ⟨i + 1, by omega, fun j y hj hy => ?_⟩ ?_ (by simp only []; omega)
     · rcases Nat.lt_or_ge j i with h | h
       · exact ht j y h hy
       · obtain rfl : j = i := by omega
         rw [hx] at hy
         obtain rfl := Option.some.inj hy
         exact hpx
     simp only [q22 hp, q22 hp', Weak, eq_self, q0x, q0r, sc_c, q0t, q0u, q0v, q0q, q0s, ScL, q0w, List.forall_mem_map, go_sem, Int.reduceBEq, Int.reduceLE, Int.reduceLT, Int.reduceNeg, Nat.reduceAdd, Nat.reduceEqDiff, Nat.reduceLT, Nat.reduceLeDiff, Nat.reduceMul, Nat.reduceSub, reduceCtorEq, ↓reduceIte]
     exact cI (by omega)
 · simp only [decide_eq_false_iff_not] at hc
   obtain rfl : i = l.length := by omega
   have hr := q8o ht
   refine q0c ?_
   refine retX Tryz.results182 ?_
   rw [hr]
   exact .c _
theorem cnfI_told {g : FuncId} {fs cs : List AV} (hp : AV.pureL fs = true) (hp' : AV.pureL cs = true) (l : List (Int)) (p : Int → Bool) (hk : ∀ x ∈ l, Told Tryz.prog g (fs ++ ([.c (.v (.int .i64 x))] ++ cs)) (.c (.v (.bool (p x))))) :
  Told Tryz.prog 143 [.c (.sl 1 (l.map iPV)), .fn (.func g) fs cs] (.c (.v (.bool (l.any p)))) := by
 have hi := ixfI_told hp hp' l p hk
 refine VC.told ent_143 Tryz.func143 rfl Tryz.ntmps143 (by simp) (by simp [AV.pureB, AV.pureL, hp, hp']) rfl fun hb => ?_
 clear hb
 refine q0c ?_
 refine q5p (And.intro hp hp') (hi) ?_
 refine q0c ?_
 refine retX Tryz.results143 ?_
 exact q2m (by rw [j2b])

theorem j83 {ns : List NT} {j : Nat} {n : NT} (h : ns[j]? = some n) : q2c ns j = n.kind := by rw [q2c, h]
theorem z42 (s : ST) (j : Nat) (k kind : Int) (hj : j < s.nodes.length) :
  Told Tryz.prog 144 [.c (.v (.int .i64 (j : Int))), .pp [.v (.int .i64 k)], .pp [.v (.int .i64 kind)], .pp s.cells] (.c (.v (.bool ((j : Int) == k || (!q00 kind && q2c s.nodes j == kind))))) := by
 obtain ⟨n, hn⟩ : ∃ n, s.nodes[j]? = some n := ⟨s.nodes[j], List.getElem?_eq_getElem hj⟩
 have hnp : (s.nodes.map NT.cells)[j]? = some n.cells := by rw [List.getElem?_map, hn]; rfl
 rw [j83 hn]
 have hN := q7g kind
 rw [q5a]
 refine VC.toldP ent_144 Tryz.func144 rfl Tryz.ntmps144 fun hb => ?_
 clear hb
 refine q0c ?_
 refine q5q (hN) ?_
 refine q0d (And.intro hnp @q4c) ?_
 refine retX Tryz.results144 ?_
 exact .c _
theorem drop_at {α : Type} {l : List α} {i : Nat} {x : α} (h : l[i]? = some x) : l.drop i = x :: l.drop (i + 1) := by
 obtain ⟨hlt, rfl⟩ := List.getElem?_eq_some_iff.1 h
 exact List.drop_eq_getElem_cons hlt
theorem z45 (s : ST) (l : List Int) (hl : ∀ k ∈ l, 0 ≤ k ∧ k < (s.nodes.length : Int)) (hlen : l.length ≤ 1000000) :
  Told Tryz.prog 98 [s.av, .c (.sl 1 (l.map iPV))] (.c (.v (.bool (j1x s.nodes l)))) := by
 obtain ⟨V, hV⟩ : ∃ V, V = j1x s.nodes l := ⟨_, rfl⟩
 rw [← hV]
 unfold j1x at hV
 rw [ST.av_eq, q5a]
 refine VC.toldP ent_98 Tryz.func98 rfl Tryz.ntmps98 fun hb => ?_
 clear hb
 refine q0c ?_
 refine VC.cond (by rfl) (by trivial) (fun hc => ?_) (fun hc => ?_)
 · have hf : V = false := by
    have : ¬ (1 ≤ l.length ∧ l.length ≤ 10) := by simp at hc; omega
    rw [hV]
    by_cases h1 : 1 ≤ l.length
    · have : ¬ l.length ≤ 10 := fun h => this ⟨h1, h⟩
      simp [this]
    · simp [h1]
   subst hf
   refine q0c ?_
   refine retX Tryz.results98 ?_
   exact .c _
 have hv : q6n s.nodes [] l = V := by
  have h1 : 1 ≤ l.length ∧ l.length ≤ 10 := by simp at hc; omega
  rw [hV]
  simp [h1.1, h1.2]
 clear hV hc
 refine VC.frz [0] [(1, .c (.sl 1 (l.map iPV))), (2, .pp [.sl 10 (s.nodes.map NT.cells), .v (.int .i64 s.root)])] [] 400 ?_ ?_
 · simp only [q5s, q0x, q0r, sc_c, q0t, q0u, q0v, q0q, q0s, ScL, q0w, List.forall_mem_map, go_sem, Int.reduceBEq, Int.reduceLE, Int.reduceLT, Int.reduceNeg, Nat.reduceAdd, Nat.reduceEqDiff, Nat.reduceLT, Nat.reduceLeDiff, Nat.reduceMul, Nat.reduceSub, reduceCtorEq, ↓reduceIte]
   exact ⟨.same _, .ref (es := [.sl 10 (s.nodes.map NT.cells), .v (.int .i64 s.root)]) (by simp) rfl rfl rfl rfl⟩
 refine q0c ?_
 refine VC.loop (ι := {i : Nat // i ≤ l.length ∧ q6n s.nodes (l.take i) (l.drop i) = V})
  (fun q => [(1, .c (.sl 1 (l.map iPV))), (2, .pp [.sl 10 (s.nodes.map NT.cells), .v (.int .i64 s.root)]), (16, .c (.sl 1 (l.map iPV))), (17, .c (.v (.int .i64 (l.length : Int)))), (18, .c (.v (.int .i64 (q.1 : Int))))]) (fun q => []) 800 (fun q => l.length - q.1) ⟨0, Nat.zero_le _, by simpa using hv⟩ ?_ ?_
 · exact j11
 clear hv
 rintro ⟨i, hi, hv⟩
 simp only []
 refine q0c ?_
 refine VC.cond (by rfl) (by trivial) (fun hc => ?_) (fun hc => ?_)
 · have hlt : i < l.length := by simp at hc; omega
   obtain ⟨x, hx⟩ : ∃ x, l[i]? = some x := ⟨l[i], List.getElem?_eq_getElem hlt⟩
   obtain ⟨h0, h1⟩ := hl x (List.mem_of_getElem? hx)
   obtain ⟨p, rfl⟩ : ∃ p : Nat, x = (p : Int) := ⟨x.toNat, by omega⟩
   have hp : p < s.nodes.length := by omega
   obtain ⟨n, hn⟩ : ∃ n, s.nodes[p]? = some n := ⟨s.nodes[p], List.getElem?_eq_getElem hp⟩
   have hnp : (s.nodes.map NT.cells)[p]? = some n.cells := by rw [List.getElem?_map, hn]; rfl
   have hw : IntKind.i64.wrap ((i : Int) + 1) = (i : Int) + 1 := q1g (by omega) (by omega)
   have hxp : (l.map iPV)[i]? = some (iPV (p : Int)) := by rw [List.getElem?_map, hx]; rfl
   have htk : (l.map iPV).take i = (l.take i).map iPV := by rw [List.map_take]
   have hF := cnfI_told (g := 144) (fs := []) (cs := [.pp [.v (.int .i64 (p : Int))], .pp [.v (.int .i64 n.kind)], .pp s.cells]) rfl rfl (l.take i) (fun m => m == (p : Int) || (!q00 n.kind && q2c s.nodes m.toNat == n.kind)) fun m hm => by
    obtain ⟨h2, h3⟩ := hl m (List.mem_of_mem_take hm)
    obtain ⟨j, rfl⟩ : ∃ j : Nat, m = (j : Int) := ⟨m.toNat, by omega⟩
    have := z42 s j (p : Int) n.kind (by omega)
    rw [Int.toNat_natCast]
    exact this
   rw [drop_at hx, q6n, j22, Int.toNat_natCast, j83 hn] at hv
   obtain ⟨b, hb⟩ : ∃ b : Bool, b = (l.take i).any fun m => m == (p : Int) || (!q00 n.kind && q2c s.nodes m.toNat == n.kind) := ⟨_, rfl⟩
   rw [← hb] at hF hv
   refine q0d (And.intro hxp (And.intro @j2a (And.intro hnp @q4c))) ?_
   (refine AO.step fun K hK => ?_; simp only [go_sem, Int.reduceBEq, Int.reduceLE, Int.reduceLT, Int.reduceNeg, Nat.reduceAdd, Nat.reduceEqDiff, Nat.reduceLT, Nat.reduceLeDiff, Nat.reduceMul, Nat.reduceSub, reduceCtorEq, ↓reduceIte, htk]; (first | refine q0g ?_ | skip))
   refine .inr (.inl ⟨.c (.v (.bool b)), [.c (.sl 1 ((l.take i).map iPV)), .fn (.func 144) [] [.pp [.v (.int .i64 (p : Int))], .pp [.v (.int .i64 n.kind)], .pp s.cells]], [832, 904], fun hg => ⟨hg, by rfl, rfl, fun k x z h5 h6 => ?_, rfl, hF⟩, hK _ _ _ ?_⟩)
   · match k with
     | 0 => obtain rfl := Option.some.inj h5; obtain rfl := Option.some.inj h6; exact .same _
     | 1 =>
       obtain rfl := Option.some.inj h5
       obtain rfl := Option.some.inj h6
       refine .fn rfl (by simp) rfl fun k x z h7 h8 => ?_
       match k with
       | 0 => obtain rfl := Option.some.inj h7; obtain rfl := Option.some.inj h8; exact View.ref (es := [.v (.int .i64 (p : Int))]) rfl rfl rfl rfl
       | 1 => obtain rfl := Option.some.inj h7; obtain rfl := Option.some.inj h8; exact View.ref (es := [.v (.int .i64 n.kind)]) rfl rfl rfl rfl
       | 2 => obtain rfl := Option.some.inj h7; obtain rfl := Option.some.inj h8; exact .same _
       | k + 3 => simp at h7
     | k + 2 => simp at h5
   clear hK K
   refine q0c ?_
   refine VC.cond (by rfl) (by trivial) (fun hc2 => ?_) (fun hc2 => ?_)
   · have hf : V = false := by
      rw [← hv]
      have : (n.kind != 13 && !b) = false := by
       cases b <;> simp at hc2 ⊢
       exact hc2
      rw [this]
      rfl
     subst hf
     refine q0c ?_
     refine retX Tryz.results98 ?_
     exact .c _
   · refine q0d (hw) ?_
     refine .next ⟨i + 1, by omega, ?_⟩ ?_ (by simp only []; omega)
     · have : (n.kind != 13 && !b) = true := by
        cases b <;> simp at hc2 ⊢
        exact hc2
       rw [this, Bool.true_and] at hv
       rw [List.take_add_one, hx]
       exact hv
     simp only [Weak, eq_self, q0x, q0r, sc_c, q0t, q0u, q0v, q0q, q0s, ScL, q0w, List.forall_mem_map, go_sem, Int.reduceBEq, Int.reduceLE, Int.reduceLT, Int.reduceNeg, Nat.reduceAdd, Nat.reduceEqDiff, Nat.reduceLT, Nat.reduceLeDiff, Nat.reduceMul, Nat.reduceSub, reduceCtorEq, ↓reduceIte]
     try exact cI (by omega)
 · have hie : i = l.length := by simp at hc; omega
   have hf : V = true := by
    rw [← hv, hie, List.drop_length, q6n]
   subst hf
   refine q0c ?_
   refine retX Tryz.results98 ?_
   exact .c _

theorem node_told (s : ST) (n : NT) (hsm : n.sm 1000000) (hbr : n.kind = 13 → ∀ k ∈ n.branches, 0 ≤ k ∧ k < (s.nodes.length : Int)) : Told Tryz.prog 53 [s.av, n.av] (.c (.v (.bool (q2h s.nodes n)))) := by
 obtain ⟨V, hV⟩ : ∃ V, V = q2h s.nodes n := ⟨_, rfl⟩
 rw [← hV]
 unfold q2h at hV
 obtain ⟨hn1, hn2, ⟨ha1, ha2⟩, ⟨hs1, hs2⟩, hb1, hf1, hf2⟩ := hsm
 have hB := bare_told n
 have hN := q7g n.kind
 have hF := j19 n.name (by omega)
 have hKd := j3n n.name
 have hA := j65 (g := 17) (rule := q2n) n.aliases fun x hx => j19 x (by have := ha2 x hx; omega)
 have hFi := z3i n.fields hf1 hf2
 have hC := j24 n.symbols n.dflt
 have hD := j4r (g := 97) (rule := q1b) n.symbols (by omega) fun x hx => q7l x (by have := hs2 x hx; omega)
 have hU := fun h => z45 s n.branches (hbr h) hb1
 clear hbr ha1 ha2 hs2 hf2
 simp only [NT.av_eq, q4c, List.map_cons, List.map_nil] at hB
 simp only [ST.av_eq, q5a, List.map_cons, List.map_nil] at hU
 obtain ⟨b0, h0⟩ : ∃ b, b = q4p n := ⟨_, rfl⟩
 obtain ⟨bN, hNN⟩ : ∃ b, b = q00 n.kind := ⟨_, rfl⟩
 obtain ⟨bF, hFF⟩ : ∃ b, b = q2n n.name := ⟨_, rfl⟩
 obtain ⟨kK, hKK⟩ : ∃ b, b = q0p n.name := ⟨_, rfl⟩
 obtain ⟨bA, hAA⟩ : ∃ b, b = allM q2n n.aliases := ⟨_, rfl⟩
 rw [← h0] at hV hB
 rw [← hNN] at hV hN
 rw [← hFF] at hV hF
 rw [← hKK] at hV hKd
 rw [← hAA] at hV hA
 clear h0 hFF hKK hAA
 rw [NT.av_eq, q4c, ST.av_eq, q5a]
 have hE : (⟨#[]⟩ : ByteArray).toList = [] := q3i []
 refine VC.toldP ent_53 Tryz.func53 rfl Tryz.ntmps53 fun hb => ?_
 clear hb
 refine q0c ?_
 refine q5q (hB) ?_
 refine q0c ?_
 refine VC.cond (by rfl) (by trivial) (fun hc => ?_) (fun hc => ?_)
 · have hf : V = false := by
    rw [hV]
    have : (decide (1 ≤ n.kind) && (decide (n.kind ≤ 14) && b0)) = false := by
     simp at hc ⊢
     intro h1 h2
     cases b0 with
     | false => rfl
     | true => simp at hc; omega
    rw [this]
    rfl
   subst hf
   refine q0c ?_
   refine retX Tryz.results53 ?_
   exact .c _
 have h1 : (decide (1 ≤ n.kind) && (decide (n.kind ≤ 14) && b0)) = true := by
  simp at hc ⊢
  exact ⟨by omega, by omega, hc.2⟩
 rw [h1, Bool.true_and] at hV
 clear h1 hc
 refine q0c ?_
 refine q0h (hN) ?_
 refine q0c ?_
 refine q5q (hF) ?_
 refine q0c ?_
 refine q5q (hKd) ?_
 refine q0c ?_
 refine q5q (hA) ?_
 refine q0c ?_
 refine VC.cond (by rfl) (by trivial) (fun hc => ?_) (fun hc => ?_)
 · have hf : V = false := by
    rw [hV]
    have : (!bN || (bF && (kK == 0 && bA))) = false := by
     cases bN <;> cases bF <;> cases bA <;> simp at hc ⊢
     simpa using hc
    rw [this]
    rfl
   subst hf
   refine q0c ?_
   refine retX Tryz.results53 ?_
   exact .c _
 have h1 : (!bN || (bF && (kK == 0 && bA))) = true := by
  cases bN <;> cases bF <;> cases bA <;> simp at hc ⊢
  simpa using hc
 rw [h1, Bool.true_and] at hV
 clear h1 hc hN hF hKd hA hB
 by_cases h9 : n.kind = 9
 · rw [if_pos h9] at hV
   subst hV
   rw [h9]
   refine q1m ?_
   refine q0h (hFi) ?_
   refine q0c ?_
   refine retX Tryz.results53 ?_
   exact .c _
 by_cases h10 : n.kind = 10
 · rw [if_neg h9, if_pos h10] at hV
   rw [h10]
   obtain ⟨bC, hCC⟩ : ∃ b, b = n.symbols.contains n.dflt := ⟨_, rfl⟩
   obtain ⟨bD, hDD⟩ : ∃ b, b = q3v q1b n.symbols := ⟨_, rfl⟩
   rw [← hCC] at hV hC
   rw [← hDD] at hV hD
   clear hCC hDD
   refine q1m ?_
   refine q0h (hC) ?_
   refine q0d (And.intro @q3i hE) ?_
   refine VC.cond (by rfl) (by trivial) (fun hc => ?_) (fun hc => ?_)
   · have hf : V = false := by
      rw [hV]
      have : ((n.has == bC) && (n.has || n.dflt.isEmpty)) = false := by
       cases hh : n.has <;> cases bC <;> cases hd : n.dflt <;> simp [hh, hd] at hc ⊢
      rw [this]
      rfl
     subst hf
     refine q0c ?_
     refine retX Tryz.results53 ?_
     exact .c _
   · have h1 : ((n.has == bC) && (n.has || n.dflt.isEmpty)) = true := by
      cases hh : n.has <;> cases bC <;> cases hd : n.dflt <;> simp [hh, hd] at hc ⊢
     rw [h1, Bool.true_and] at hV
     have hv : V = ((decide ((n.symbols.length : Int) ≥ 1) && decide ((n.symbols.length : Int) ≤ 40)) && bD) := by
      rw [hV, Bool.and_assoc]
      congr 1
      · simp
        omega
      · congr 1
        simp
        omega
     clear hV hc h1
     replace hv := Lib.hid hv
     refine q0c ?_
     refine q5q (hD) ?_
     refine q0c ?_
     refine retX Tryz.results53 ?_
     rw [hv.out]
     exact .c _
 by_cases h14 : n.kind = 14
 · rw [if_neg h9, if_neg h10, if_pos h14] at hV
   rw [h14]
   refine q1m ?_
   refine retX Tryz.results53 ?_
   rw [hV]
   exact .c _
 by_cases h13 : n.kind = 13
 · rw [if_neg h9, if_neg h10, if_neg h14, if_pos h13] at hV
   subst hV
   rw [h13]
   have hU := hU h13
   refine q1m ?_
   refine q0h (hU) ?_
   refine q0c ?_
   refine retX Tryz.results53 ?_
   exact .c _
 · rw [if_neg h9, if_neg h10, if_neg h14, if_neg h13] at hV
   subst hV
   have e9 : (n.kind == 9) = false := by simpa using h9
   have e10 : (n.kind == 10) = false := by simpa using h10
   have e14 : (n.kind == 14) = false := by simpa using h14
   have e13 : (n.kind == 13) = false := by simpa using h13
   refine q06 (And.intro e9 (And.intro e10 (And.intro e14 e13))) ?_
   refine retX Tryz.results53 ?_
   exact .c _

def wB (ns : List NT) (r : Int) (p : Nat) : Blkd := ⟨false, 123, 3, [[.c (.sl 10 (ns.map NT.cells)), .c (.v (.int .i64 r)), .c (.v (.int .i64 (p : Int)))]]⟩
theorem kids_len {n : NT} (h : n.sm 1000000) : (q2g n).length ≤ 1000000 := by
 unfold q2g
 have h1 := h.2.2.2.2.1
 have h2 := h.2.2.2.2.2.1
 split
 · simpa using h2
 · split
   · simp
   · split
     · exact h1
     · simp
theorem drop_at' {α : Type} {l : List α} {i : Nat} {x : α} (h : l[i]? = some x) : l.drop i = x :: l.drop (i + 1) := by
 obtain ⟨hlt, rfl⟩ := List.getElem?_eq_some_iff.1 h
 exact List.drop_eq_getElem_cons hlt
theorem walk_told (ns : List NT) (r : Int) (hl : ns.length ≤ 1000000) (hs : ∀ n ∈ ns, n.sm 1000000) : ∀ (d : Nat) (z : Int), z = 33 - (d : Int) → d ≤ 33 → ∀ p : Nat, p ≤ ns.length →
  ToldM Tryz.prog 91 [.ref 1000000 1 0 0, .c (.v (.int .i64 z))] [wB ns r p] [some (wB ns r (q2t ns d p).2)] (.c (.v (.bool (q2t ns d p).1))) := by
 intro d
 induction d with
 | zero =>
   intro z hz hd p hp
   have hz2 : decide (z > 32) = true := by simp; omega
   rw [q2t]
   unfold wB
   refine VC.toldX ent_91 [] Tryz.func91 rfl Tryz.ntmps91 fun hb hbL => ?_
   clear hb hbL
   refine q0d (hz2) ?_
   refine VC.cond (by rfl) (by trivial) (fun hc => ?_) (fun hc => ?_)
   · refine q0c ?_
     refine retX Tryz.results91 ?_
     exact .c _
   · exact absurd hc (by simp)
 | succ d ih =>
   intro z hz hd p hp
   have hz2 : decide (z > 32) = false := by simp; omega
   have hwz : IntKind.i64.wrap (z + 1) = z + 1 := q1g (by omega) (by omega)
   have hI := ih (z + 1) (by omega) (by omega)
   clear ih
   obtain ⟨R, hR⟩ : ∃ R, R = q2t ns (d + 1) p := ⟨_, rfl⟩
   rw [← hR]
   rw [q2t] at hR
   have hle := z1t ns d
   by_cases hlt : p < ns.length
   · obtain ⟨n, hn⟩ : ∃ n, ns[p]? = some n := ⟨ns[p], List.getElem?_eq_getElem hlt⟩
     have hnp : (ns.map NT.cells)[p]? = some n.cells := by rw [List.getElem?_map, hn]; rfl
     have hge : decide ((p : Int) ≥ (ns.length : Int)) = false := by simp; omega
     have hwp : IntKind.i64.wrap ((p : Int) + 1) = ((p + 1 : Nat) : Int) := by rw [q1g (by omega) (by omega)]; rfl
     have hns := hs n (List.mem_of_getElem? hn)
     have hK := kids_told n hns
     have hkl := kids_len hns
     rw [hn] at hR
     simp only [] at hR
     obtain ⟨ks, hks⟩ : ∃ ks, ks = q2g n := ⟨_, rfl⟩
     rw [← hks] at hK hR hkl
     simp only [NT.av_eq] at hK
     clear hks
     have hKi := hK
     clear hK
     unfold wB at hI ⊢
     refine VC.toldX ent_91 [] Tryz.func91 rfl Tryz.ntmps91 fun hb hbL => ?_
     clear hb hbL
     refine q0d (And.intro hge hz2) ?_
     refine VC.cond (by rfl) (by trivial) (fun hc => ?_) (fun hc => ?_)
     · exact absurd hc (by simp)
     refine q0d (And.intro hwp (And.intro hnp (And.intro @z3v (And.intro @z4p @z4q)))) ?_
     refine q5p (@q2q) (hKi) ?_
     refine q0c ?_
     clear hKi
     refine VC.loop (ι := {x : Nat × Nat // x.1 ≤ ks.length ∧ x.2 ≤ ns.length ∧ q3k ns (q2t ns d) (ks.drop x.1) x.2 = R})
      (fun q => [(0, .ref 1000000 1 0 0), (1, .c (.v (.int .i64 z))), (6, .fn (.func 91) [.ref 1000000 1 0 0] []), (42, .c (.sl 1 (ks.map iPV))), (43, .c (.v (.int .i64 (ks.length : Int)))), (44, .c (.v (.int .i64 (q.1.1 : Int))))])
      (fun q => [(1000000, ⟨false, 123, 3, [[.c (.sl 10 (ns.map NT.cells)), .c (.v (.int .i64 r)), .c (.v (.int .i64 (q.1.2 : Int)))]]⟩)]) 800 (fun q => ks.length - q.1.1) ⟨(0, p + 1), Nat.zero_le _, hlt, by rw [List.drop_zero]; exact hR.symm⟩ ?_ ?_
     · simp only [Weak, eq_self, q0x, q0r, sc_c, q0t, q0u, q0v, q0q, q0s, ScL, q0w, List.forall_mem_map, go_sem, Int.reduceBEq, Int.reduceLE, Int.reduceLT, Int.reduceNeg, Nat.reduceAdd, Nat.reduceEqDiff, Nat.reduceLT, Nat.reduceLeDiff, Nat.reduceMul, Nat.reduceSub, reduceCtorEq, ↓reduceIte]
       try simp
     clear hR
     rintro ⟨⟨i, q⟩, hi, hq, hR⟩
     simp only [] at hi hq hR ⊢
     refine q0c ?_
     refine VC.cond (by rfl) (by trivial) (fun hc2 => ?_) (fun hc2 => ?_)
     · have hil : i < ks.length := by simp at hc2; omega
       obtain ⟨x, hx⟩ : ∃ x, ks[i]? = some x := ⟨ks[i], List.getElem?_eq_getElem hil⟩
       have hxp : (ks.map iPV)[i]? = some (iPV x) := by rw [List.getElem?_map, hx]; rfl
       have hw : IntKind.i64.wrap ((i : Int) + 1) = (i : Int) + 1 := q1g (by omega) (by omega)
       rw [drop_at' hx, q3k] at hR
       by_cases hk : x = (q : Int)
       · rw [if_pos hk] at hR
         have hkq : (x == (q : Int)) = true := by simpa using hk
         have hIq := hI q hq
         have hqb := (hle q hq).2
         obtain ⟨M, hM⟩ : ∃ M, M = q2t ns d q := ⟨_, rfl⟩
         rw [← hM] at hIq hR hqb
         clear hI hM
         refine q06 (And.intro hxp (And.intro @j2a (And.intro hkq hwz))) ?_
         refine j1z [1000000] (hIq) ?_
         refine q0c ?_
         refine VC.cond (by rfl) (by trivial) (fun hc3 => ?_) (fun hc3 => ?_)
         · have hf : R = (false, M.2) := by
            rw [if_neg (by simpa using hc3)] at hR
            exact hR.symm
           subst hf
           refine q0c ?_
           refine retX Tryz.results91 ?_
           exact .c _
         · rw [if_pos (by simpa using hc3)] at hR
           refine q0d (hw) ?_
           refine .next ⟨(i + 1, M.2), by simp only []; omega, hqb, hR⟩ ?_ (by simp only []; omega)
           simp only [Weak, eq_self, q0x, q0r, sc_c, q0t, q0u, q0v, q0q, q0s, ScL, q0w, List.forall_mem_map, go_sem, Int.reduceBEq, Int.reduceLE, Int.reduceLT, Int.reduceNeg, Nat.reduceAdd, Nat.reduceEqDiff, Nat.reduceLT, Nat.reduceLeDiff, Nat.reduceMul, Nat.reduceSub, reduceCtorEq, ↓reduceIte]
           try exact cI (by omega)
       · rw [if_neg hk] at hR
         have hkq : (x == (q : Int)) = false := by simpa using hk
         by_cases hx0 : x < 0
         · have hf : R = (false, q) := by
            rw [if_pos (.inl hx0)] at hR
            exact hR.symm
           subst hf
           have e0 : decide (x < 0) = true := by simpa using hx0
           refine q06 (And.intro hxp (And.intro @j2a (And.intro hkq e0))) ?_
           refine retX Tryz.results91 ?_
           exact .c _
         have e0 : decide (x < 0) = false := by simpa using hx0
         by_cases hxq : x > (q : Int)
         · have hf : R = (false, q) := by
            rw [if_pos (.inr (.inl hxq))] at hR
            exact hR.symm
           subst hf
           have e1 : decide (x > (q : Int)) = true := by simpa using hxq
           refine q06 (And.intro hxp (And.intro @j2a (And.intro hkq (And.intro e0 e1)))) ?_
           refine retX Tryz.results91 ?_
           exact .c _
         have e1 : decide (x > (q : Int)) = false := by simpa using hxq
         obtain ⟨j, rfl⟩ : ∃ j : Nat, x = (j : Int) := ⟨x.toNat, by omega⟩
         have hj : j < ns.length := by omega
         obtain ⟨m, hm⟩ : ∃ m, ns[j]? = some m := ⟨ns[j], List.getElem?_eq_getElem hj⟩
         have hmp : (ns.map NT.cells)[j]? = some m.cells := by rw [List.getElem?_map, hm]; rfl
         have hka : q2c ns ((j : Int)).toNat = m.kind := by rw [Int.toNat_natCast, q2c, hm]
         rw [hka] at hR
         have hN := q7g m.kind
         refine q06 (And.intro hxp (And.intro @j2a (And.intro hkq (And.intro e0 (And.intro e1 (And.intro hmp @q4c)))))) ?_
         refine q0h (hN) ?_
         refine q0c ?_
         refine VC.cond (by rfl) (by trivial) (fun hc3 => ?_) (fun hc3 => ?_)
         · have hf : R = (false, q) := by
            rw [if_pos (.inr (.inr (by simpa using hc3)))] at hR
            exact hR.symm
           subst hf
           refine q0c ?_
           refine retX Tryz.results91 ?_
           exact .c _
         · have hnn : q00 m.kind = true := by simpa using hc3
           have hno : ¬ ((j : Int) < 0 ∨ (j : Int) > (q : Int) ∨ q00 m.kind = false) := by
            rintro (h | h | h)
            · exact hx0 h
            · exact hxq h
            · rw [hnn] at h
              exact absurd h (by simp)
           rw [if_neg hno] at hR
           refine q0d (hw) ?_
           refine .next ⟨(i + 1, q), by simp only []; omega, hq, hR⟩ ?_ (by simp only []; omega)
           simp only [Weak, eq_self, q0x, q0r, sc_c, q0t, q0u, q0v, q0q, q0s, ScL, q0w, List.forall_mem_map, go_sem, Int.reduceBEq, Int.reduceLE, Int.reduceLT, Int.reduceNeg, Nat.reduceAdd, Nat.reduceEqDiff, Nat.reduceLT, Nat.reduceLeDiff, Nat.reduceMul, Nat.reduceSub, reduceCtorEq, ↓reduceIte]
           try exact cI (by omega)
     · have hie : i = ks.length := by simp at hc2; omega
       have hf : R = (true, q) := by
        rw [hie, List.drop_length, q3k] at hR
        exact hR.symm
       subst hf
       refine q0c ?_
       refine retX Tryz.results91 ?_
       exact .c _
   · have hR : R = (false, p) := by
      rw [hR, List.getElem?_eq_none (by omega)]
     subst hR
     have hge : decide ((p : Int) ≥ (ns.length : Int)) = true := by simp; omega
     unfold wB
     refine VC.toldX ent_91 [] Tryz.func91 rfl Tryz.ntmps91 fun hb hbL => ?_
     clear hb hbL
     refine q0d (hge) ?_
     refine VC.cond (by rfl) (by trivial) (fun hc => ?_) (fun hc => ?_)
     · refine q0c ?_
       refine retX Tryz.results91 ?_
       exact .c _
     · exact absurd hc (by simp)
theorem z0c (s : ST) (hl : s.nodes.length ≤ 1000000) (hs : ∀ n ∈ s.nodes, n.sm 1000000) : Told Tryz.prog 52 [s.av] (.c (.v (.bool (q27 s)))) := by
 have hW := walk_told s.nodes s.root hl hs 33 0 (by omega) (by omega) 0 (Nat.zero_le _)
 unfold wB at hW
 obtain ⟨V, hV⟩ : ∃ V, V = q27 s := ⟨_, rfl⟩
 rw [← hV]
 unfold q27 at hV
 obtain ⟨M, hM⟩ : ∃ M, M = q2t s.nodes 33 0 := ⟨_, rfl⟩
 rw [← hM] at hV hW
 clear hM
 have hv : V = (decide ((s.nodes.length : Int) > 0) && decide ((s.nodes.length : Int) ≤ 200) && (s.root == 0) && M.1 && ((M.2 : Int) == (s.nodes.length : Int))) := by
  have e1 : decide ((s.nodes.length : Int) > 0) = decide (0 < s.nodes.length) := by simp
  have e2 : decide ((s.nodes.length : Int) ≤ 200) = decide (s.nodes.length ≤ 200) := by simp; omega
  have e3 : (s.root == 0) = decide (s.root = 0) := by by_cases h : s.root = 0 <;> simp [h]
  have e4 : ((M.2 : Int) == (s.nodes.length : Int)) = decide (M.2 = s.nodes.length) := by
   by_cases h : M.2 = s.nodes.length
   · simp [h]
   · have : ¬ ((M.2 : Int) = (s.nodes.length : Int)) := by omega
     simp [h, this]
  rw [hV, e1, e2, e3, e4]
  simp only [Bool.and_assoc]
 clear hV
 replace hv := Lib.hid hv
 rw [ST.av_eq, q5a]
 rw [show ((0 : Nat) : Int) = 0 from rfl] at hW
 by_cases c1 : 0 < s.nodes.length
 · have e1 : decide ((s.nodes.length : Int) > 0) = true := by simpa using c1
   by_cases c2 : s.nodes.length ≤ 200
   · have e2 : decide ((s.nodes.length : Int) ≤ 200) = true := by simp; omega
     by_cases c3 : s.root = 0
     · have e3 : (s.root == 0) = true := by simpa using c3
       have hv2 : V = (M.1 && ((M.2 : Int) == (s.nodes.length : Int))) := by rw [hv.out, e1, e2, e3]; simp
       clear hv
       replace hv2 := Lib.hid hv2
       refine VC.toldP j3a Tryz.func52 rfl Tryz.ntmps52 fun hb => ?_
       clear hb
       refine q0d (And.intro e1 (And.intro e2 e3)) ?_
       refine j1z [32] (hW) ?_
       refine q0c ?_
       refine retX Tryz.results52 ?_
       rw [hv2.out]
       exact .c _
     · have e3 : (s.root == 0) = false := by simpa using c3
       have hv2 : V = false := by rw [hv.out, e3]; simp
       clear hv
       subst hv2
       refine VC.toldP j3a Tryz.func52 rfl Tryz.ntmps52 fun hb => ?_
       clear hb
       refine q0d (And.intro e1 (And.intro e2 e3)) ?_
       refine retX Tryz.results52 ?_
       exact .c _
   · have e2 : decide ((s.nodes.length : Int) ≤ 200) = false := by simp; omega
     have hv2 : V = false := by rw [hv.out, e2]; simp
     clear hv
     subst hv2
     refine VC.toldP j3a Tryz.func52 rfl Tryz.ntmps52 fun hb => ?_
     clear hb
     refine q0d (And.intro e1 e2) ?_
     refine retX Tryz.results52 ?_
     exact .c _
 · have e1 : decide ((s.nodes.length : Int) > 0) = false := by
    rw [show s.nodes.length = 0 by omega]
    rfl
   have hv2 : V = false := by rw [hv.out, e1]; simp
   clear hv
   subst hv2
   refine VC.toldP j3a Tryz.func52 rfl Tryz.ntmps52 fun hb => ?_
   clear hb
   refine q0d (e1) ?_
   refine retX Tryz.results52 ?_
   exact .c _

theorem z3z {ns : List NT} {i : Nat} {n : NT} (h : ns[i]? = some n) : q2w (ns.take (i + 1)) = q2w (ns.take i) ++ (if q00 n.kind = true then [n.name] else []) := by
 rw [List.take_add_one, h]
 simp only [q2w, List.filter_append, List.map_append, Option.toList_some]
 congr 1
 by_cases hk : q00 n.kind = true
 · simp [hk]
 · simp [hk]
theorem rA_rep (N : Nat) : rA iPV (List.replicate N 0) = List.replicate N [AV.c (.v (.int .i64 0))] := by
 simp [rA, iPV]
theorem j3u {s : ST} (h : q27 s = true) : ∀ n ∈ s.nodes, ∀ k ∈ q2g n, 0 ≤ k ∧ k < (s.nodes.length : Int) := by
 intro n hn k hk
 obtain ⟨i, hi⟩ := List.getElem?_of_mem hn
 have := (z35 h).1 i n (Nat.zero_le _) (List.getElem?_eq_some_iff.1 hi).1 hi k hk
 exact ⟨this.1, this.2.1⟩
theorem names_sm {ns : List NT} {N : Nat} (h : ∀ n ∈ ns, n.sm N) : ∀ x ∈ q2w ns, x.length ≤ N := by
 intro x hx
 obtain ⟨n, hn, rfl⟩ := List.mem_map.1 hx
 exact (h n (List.mem_filter.1 hn).1).1
theorem names_len (ns : List NT) : (q2w ns).length ≤ ns.length := by
 unfold q2w
 rw [List.length_map]
 exact List.length_filter_le _ _
theorem z4i (s : ST) (hsm : s.sm 1000000) : Told Tryz.prog 21 [s.av] (.c (.v (.bool (q7k s)))) := by
 obtain ⟨V, hV⟩ : ∃ V, V = q7k s := ⟨_, rfl⟩
 rw [← hV]
 unfold q7k at hV
 obtain ⟨hl, hs⟩ := hsm
 have hO := z0c s hl hs
 simp only [ST.av_eq, q5a, List.map_cons, List.map_nil] at hO
 rw [ST.av_eq, q5a]
 cases ho : q27 s with
 | false =>
   rw [ho] at hO hV
   obtain rfl : V = false := hV
   refine VC.toldP ent_21 Tryz.func21 rfl Tryz.ntmps21 fun hb => ?_
   clear hb
   refine q0c ?_
   refine q0h (hO) ?_
   refine q1m ?_
   refine retX Tryz.results21 ?_
   exact .c _
 | true =>
 rw [ho] at hO hV
 have hki := j3u ho
 rw [Bool.true_and] at hV
 obtain ⟨R, hR⟩ : ∃ R, R = q56 s.nodes s.nodes 0 (List.replicate s.nodes.length 0) := ⟨_, rfl⟩
 rw [← hR] at hV
 have hnm : ∀ i, (q2w (s.nodes.take i)).length ≤ 1000000 := fun i => by
  have := names_len (s.nodes.take i)
  rw [List.length_take] at this
  omega
 refine VC.toldP ent_21 Tryz.func21 rfl Tryz.ntmps21 fun hb => ?_
 clear hb
 refine q0c ?_
 refine q0h (hO) ?_
 refine q1m ?_
 refine VC.nil 3 9 1 (by rfl) (by trivial) (by rfl) ?_
 refine VC.loop (ι := {x : Nat × List Int // x.1 ≤ s.nodes.length ∧ x.2.length = s.nodes.length ∧ KnOk x.2 ∧ q56 s.nodes (s.nodes.drop x.1) x.1 x.2 = R})
  (fun q => [(1, .ref 0 1 0 0), (3, .row 120 (q2w (s.nodes.take q.1.1)).length), (4, .row 72 s.nodes.length), (15, .c (.sl 10 (s.nodes.map NT.cells))), (16, .c (.v (.int .i64 (s.nodes.length : Int)))), (17, .c (.v (.int .i64 (q.1.1 : Int))))])
  (fun q => [(0, ⟨false, 30, 2, [[.c (.sl 10 (s.nodes.map NT.cells)), .c (.v (.int .i64 s.root))]]⟩), (72, ⟨true, 3, 1, rA iPV q.1.2⟩), (120, ⟨true, 9, 1, rA sPV (q2w (s.nodes.take q.1.1))⟩)]) 800 (fun q => s.nodes.length - q.1.1)
  ⟨(0, List.replicate s.nodes.length 0), Nat.zero_le _, by simp, fun x hx => by obtain rfl := (List.mem_replicate.1 hx).2; decide, by rw [List.drop_zero]; exact hR.symm⟩ ?_ ?_
 · simp only [q0a, q0i, rA_rep, List.length_replicate, Weak, eq_self, q0x, q0r, sc_c, q0t, q0u, q0v, q0q, q0s, ScL, q0w, List.forall_mem_map, go_sem, Int.reduceBEq, Int.reduceLE, Int.reduceLT, Int.reduceNeg, Nat.reduceAdd, Nat.reduceEqDiff, Nat.reduceLT, Nat.reduceLeDiff, Nat.reduceMul, Nat.reduceSub, reduceCtorEq, ↓reduceIte]
   refine ⟨rfl, rfl, ⟨Nat.le_refl _, Nat.le_refl _⟩, fun e he x hx => ?_⟩
   obtain rfl := (List.mem_replicate.1 he).2
   obtain rfl := List.mem_singleton.1 hx
   exact .c
 clear hR hO
 rintro ⟨⟨i, kn⟩, hi, hk, hko, hR⟩
 simp only [] at hi hk hko hR ⊢
 have hkl : (rA iPV kn).length = s.nodes.length := by rw [q0a, hk]
 refine q0c ?_
 refine VC.cond (by rfl) (by trivial) (fun hc => ?_) (fun hc => ?_)
 · have hlt : i < s.nodes.length := by simp at hc; omega
   obtain ⟨n, hn⟩ : ∃ n, s.nodes[i]? = some n := ⟨s.nodes[i], List.getElem?_eq_getElem hlt⟩
   have hnp : (s.nodes.map NT.cells)[i]? = some n.cells := by rw [List.getElem?_map, hn]; rfl
   have hw : IntKind.i64.wrap ((i : Int) + 1) = (i : Int) + 1 := q1g (by omega) (by omega)
   have hmem := List.mem_of_getElem? hn
   have hNd := node_told s n (hs n hmem) fun h13 k hk => hki n hmem k (by rw [q2g, if_neg (by omega), if_neg (by omega), if_pos h13]; exact hk)
   have hNm := q7g n.kind
   have hW := z1x s hl hs (fun m hm h9 f hf => hki m hm f.type (by rw [q2g, if_pos h9]; exact List.mem_map.2 ⟨f, hf, rfl⟩)) (s.nodes.length + 1) i kn hlt hk hko (by have := List.count_le_length (a := (0 : Int)) (l := kn); omega)
   obtain ⟨w1, w2, w3, w4, w5⟩ := j4d s.nodes (s.nodes.length + 1) i kn hk hko
   rw [(List.drop_eq_getElem_cons hlt).trans (by rw [(List.getElem?_eq_some_iff.1 hn).2]), q56] at hR
   obtain ⟨M, hM⟩ : ∃ M, M = q2d s.nodes (s.nodes.length + 1) i kn := ⟨_, rfl⟩
   rw [← hM] at hW hR w1 w2 w3 w4 w5
   clear hM
   simp only [ST.av_eq, q5a, NT.av_eq, q4c, List.map_cons, List.map_nil] at hNd hW
   have hkl2 : (rA iPV M.2).length = s.nodes.length := by rw [q0a, w1]
   have hnl : (rA sPV (q2w (s.nodes.take i))).length = (q2w (s.nodes.take i)).length := q0a _ _
   have hnt := z3z hn
   have hni := hnm i
   cases hnn : q2h s.nodes n with
   | false =>
     rw [hnn] at hNd hR
     obtain rfl : R = false := hR.symm
     obtain rfl : V = false := hV
     refine q0d (And.intro hnp (And.intro @q4c hkl)) ?_
     refine q0h (hNd) ?_
     refine q1m ?_
     refine retX Tryz.results21 ?_
     exact .c _
   | true =>
     rw [hnn] at hNd hR
     rw [Bool.true_and] at hR
     refine q0d (And.intro hnp (And.intro @q4c hkl)) ?_
     refine q0h (hNd) ?_
     refine q0c ?_
     refine q0n (And.intro hkl @q0b) [72] (hW) ?_
     refine q0c ?_
     refine VC.cond (by rfl) (by trivial) (fun hc2 => ?_) (fun hc2 => ?_)
     · have hf : V = false := by
        have : ¬ M.1 ≤ 1000 := by simp at hc2; omega
        rw [hV, ← hR]
        simp [this]
       subst hf
       refine q0c ?_
       refine retX Tryz.results21 ?_
       exact .c _
     have hm1 : M.1 ≤ 1000 := by simp at hc2; omega
     have hR2 : q56 s.nodes (s.nodes.drop (i + 1)) (i + 1) M.2 = R := by
      rw [← hR]
      simp [hm1]
     refine q0d (hkl2) ?_
     refine q0h (hNm) ?_
     refine q0c ?_
     refine VC.cond (by rfl) (by trivial) (fun hc3 => ?_) (fun hc3 => ?_)
     · rw [if_pos hc3] at hnt
       have hr : rA sPV (q2w (s.nodes.take i)) ++ [[.c (.v (.string (str n.name)))]] = rA sPV (q2w (s.nodes.take (i + 1))) := by
        rw [hnt]
        exact q83 sPV _ n.name
       have hl2 : (q2w (s.nodes.take (i + 1))).length = (q2w (s.nodes.take i)).length + 1 := by rw [hnt]; simp
       refine q0d (And.intro hnl (And.intro hr hw)) ?_
       refine .next ⟨(i + 1, M.2), by simp only []; omega, w1, w2, hR2⟩ ?_ (by simp only []; omega)
       refine q3l (And.intro @q0a (And.intro @q0i (And.intro @q0b (And.intro w1 hl2)))) ?_
       exact ⟨cI (by omega), Nat.le_refl _, Nat.le_refl _⟩
     · rw [if_neg (by rw [hc3]; simp), List.append_nil] at hnt
       refine q0d (hw) ?_
       refine .next ⟨(i + 1, M.2), by simp only []; omega, w1, w2, hR2⟩ ?_ (by simp only []; omega)
       refine q3l (And.intro @q0a (And.intro @q0i (And.intro @q0b (And.intro w1 hnt)))) ?_
       exact ⟨cI (by omega), Nat.le_refl _, Nat.le_refl _⟩
 · have hie : i = s.nodes.length := by simp at hc; omega
   have hf : R = true := by
    rw [← hR, hie, List.drop_length, q56]
   subst hf
   rw [Bool.true_and] at hV
   have htk : s.nodes.take i = s.nodes := by rw [hie, List.take_length]
   rw [htk]
   have hnm0 := hnm i
   rw [htk] at hnm0
   have hD := j4r (g := 17) (rule := q2n) (q2w s.nodes) (by omega) fun x hx => j19 x (by have := names_sm hs x hx; omega)
   rw [← hV] at hD
   have hrl : (rA sPV (q2w s.nodes)).length = (q2w s.nodes).length := q0a _ _
   refine q0d (hrl) ?_
   (refine AO.step fun K hK => ?_; simp only [go_sem, Int.reduceBEq, Int.reduceLE, Int.reduceLT, Int.reduceNeg, Nat.reduceAdd, Nat.reduceEqDiff, Nat.reduceLT, Nat.reduceLeDiff, Nat.reduceMul, Nat.reduceSub, reduceCtorEq, ↓reduceIte, hrl]; (first | refine q0g ?_ | skip))
   refine .inr (.inl ⟨.c (.v (.bool V)), [.c (.sl 1 ((q2w s.nodes).map sPV)), .fn (.func 17) [] []], [120], ⟨by simp [AV.pureL, AV.pureB], rfl, fun k x z h5 h6 => ?_, rfl, hD⟩, hK _ _ _ ?_⟩)
   · match k with
     | 0 =>
       obtain rfl := Option.some.inj h5
       obtain rfl := Option.some.inj h6
       exact View.row (B := ⟨true, 9, 1, rA sPV (q2w s.nodes)⟩) (es := (q2w s.nodes).map sPV) rfl rfl hrl (q4v _ _)
     | 1 => obtain rfl := Option.some.inj h5; obtain rfl := Option.some.inj h6; exact .same _
     | k + 2 => simp at h5
   clear hK K
   refine q0c ?_
   refine retX Tryz.results21 ?_
   exact .c _

structure EN where
 n : NT
 f : PV
 b : PV
def EN.cells (e : EN) : List PV := [.v (.int .i64 e.n.kind), .v (.string (str e.n.name)), .sl 1 (e.n.aliases.map sPV), e.f, .sl 1 (e.n.symbols.map sPV), .v (.bool e.n.has), .v (.string (str e.n.dflt)), .v (.int .i64 e.n.size), .v (.int .i64 e.n.items), e.b]
def EN.av (e : EN) : AV := .agg (e.cells.map .c)
theorem EN.av_eq (e : EN) : e.av = .agg (e.cells.map .c) := rfl
theorem q43 (e : EN) : e.cells = [.v (.int .i64 e.n.kind), .v (.string (str e.n.name)), .sl 1 (e.n.aliases.map sPV), e.f, .sl 1 (e.n.symbols.map sPV), .v (.bool e.n.has), .v (.string (str e.n.dflt)), .v (.int .i64 e.n.size), .v (.int .i64 e.n.items), e.b] := rfl
theorem j5k (e : EN) : e.cells.length = 10 := rfl
theorem j57 (e : EN) : e.cells.take 10 = e.cells := rfl
theorem j58 (e : EN) : (e.cells.map AV.c).take 10 = e.cells.map .c := rfl
def EN.of (n : NT) : EN := ⟨n, .sl 9 (n.fields.map FT.cells), .sl 1 (n.branches.map iPV)⟩
def isE (name : List UInt8) (e : EN) : Bool := isN name e.n
theorem findH_idx (es : List EN) (name : List UInt8) : q1v (es.map fun e => q0k e.n) name = idxP (isE name) es := by
 unfold q1v idxP
 rw [List.findIdx?_map]
 rfl
theorem ixfE_told {g : FuncId} {fs cs : List AV} (hp : AV.pureL fs = true) (hp' : AV.pureL cs = true) (l : List EN) (p : EN → Bool) (hk : ∀ x ∈ l, Told Tryz.prog g (fs ++ ([x.av] ++ cs)) (.c (.v (.bool (p x))))) :
  Told Tryz.prog 163 [.c (.sl 10 (l.map EN.cells)), .fn (.func g) fs cs] (.c (.v (.int .i64 (idxP p l)))) := by
 refine VC.told ent_163 Tryz.func163 rfl Tryz.ntmps163 (by simp) (by simp [AV.pureB, AV.pureL, hp, hp']) rfl fun hb => ?_
 simp only [List.mem_cons, List.not_mem_nil, or_false, forall_eq_or_imp, forall_eq, q5b, q5h, List.length_map] at hb
 have h1 := hb.1.1
 clear hb
 refine q0c ?_
 refine VC.loop (ι := {i : Nat // i ≤ l.length ∧ ∀ j x, j < i → l[j]? = some x → p x = false}) (fun i => [(0, .c (.sl 10 (l.map EN.cells))), (1, .fn (.func g) fs cs), (7, .c (.v (.int .i64 l.length))), (8, .c (.v (.int .i64 i.1)))]) (fun _ => []) 0 (fun i => l.length - i.1) ⟨0, Nat.zero_le _, by intro j x hj; omega⟩ ?_ ?_
 · simp only [q22 hp, q22 hp', Weak, eq_self, q0x, q0r, sc_c, q0t, q0u, q0v, q0q, q0s, ScL, q0w, List.forall_mem_map, go_sem, Int.reduceBEq, Int.reduceLE, Int.reduceLT, Int.reduceNeg, Nat.reduceAdd, Nat.reduceEqDiff, Nat.reduceLT, Nat.reduceLeDiff, Nat.reduceMul, Nat.reduceSub, reduceCtorEq, ↓reduceIte]
   all_goals rfl
 rintro ⟨i, hi, ht⟩
 refine q0c ?_
 refine VC.cond (by rfl) (by trivial) (fun hc => ?_) (fun hc => ?_)
 · simp only [decide_eq_true_eq] at hc
   obtain ⟨x, hx⟩ : ∃ x, l[i]? = some x := ⟨l[i]'(by omega), List.getElem?_eq_getElem _⟩
   have hw : IntKind.i64.wrap ((i : Int) + 1) = (i : Int) + 1 := q1g (by omega) (by omega)
   have hkx := hk x (List.mem_of_getElem? hx)
   (repeat (first | refine pass ?_ | refine VC.region (by rfl) (by rfl) ?_ | (refine AO.step fun K hK => ?_; simp only [List.getElem?_map, hx, EN.av, j5k, j57, j58, go_sem, Int.reduceBEq, Int.reduceLE, Int.reduceLT, Int.reduceNeg, Nat.reduceAdd, Nat.reduceEqDiff, Nat.reduceLT, Nat.reduceLeDiff, Nat.reduceMul, Nat.reduceSub, reduceCtorEq, ↓reduceIte]; (first | refine q07 ?_ | refine q0g ?_ | skip); (first | refine hK _ _ _ ?_ | refine ⟨by first | omega | exact ⟨_, rfl, rfl⟩ | exact fun _ => ⟨_, rfl, rfl⟩ | (intro h; simp only [List.getElem?_map, hx, EN.av, j5k, j57, j58, h, true_and]; omega) | (clear hK; intro h; simp_all <;> omega), hK _ _ _ ?_⟩); clear hK K) | refine VC.draw mixP (by rfl) (by rfl) ?_ | refine ⟨q08 (by kernel_rfl), ?_⟩ | refine BQ.other (by decide) ?_ | refine VC.seq ?_ | refine AO.nil ?_ | refine VC.block ?_))
   ((refine AO.step fun K hK => ?_; simp only [go_sem, Int.reduceBEq, Int.reduceLE, Int.reduceLT, Int.reduceNeg, Nat.reduceAdd, Nat.reduceEqDiff, Nat.reduceLT, Nat.reduceLeDiff, Nat.reduceMul, Nat.reduceSub, reduceCtorEq, ↓reduceIte, EN.av, j5k, j57, j58, hp, hp', q80, q2q, List.append_assoc]; (first | refine q0g ?_ | skip)); refine .inl ⟨_, hkx, hK _ _ _ ?_⟩; clear hK K)
   refine q0c ?_
   refine VC.cond (by rfl) (by trivial) (fun hpx => ?_) (fun hpx => ?_)
   · have hr := q8n hx hpx ht
     refine q0c ?_
     refine retX Tryz.results163 ?_
     rw [hr]
     exact .c _
   · refine q0d (hw) ?_
     refine .next ⟨i + 1, by omega, fun j y hj hy => ?_⟩ ?_ (by simp only []; omega)
     · rcases Nat.lt_or_ge j i with h | h
       · exact ht j y h hy
       · obtain rfl : j = i := by omega
         rw [hx] at hy
         obtain rfl := Option.some.inj hy
         exact hpx
     simp only [q22 hp, q22 hp', Weak, eq_self, q0x, q0r, sc_c, q0t, q0u, q0v, q0q, q0s, ScL, q0w, List.forall_mem_map, go_sem, Int.reduceBEq, Int.reduceLE, Int.reduceLT, Int.reduceNeg, Nat.reduceAdd, Nat.reduceEqDiff, Nat.reduceLT, Nat.reduceLeDiff, Nat.reduceMul, Nat.reduceSub, reduceCtorEq, ↓reduceIte]
     exact cI (by omega)
 · simp only [decide_eq_false_iff_not] at hc
   obtain rfl : i = l.length := by omega
   have hr := q8o ht
   refine q0c ?_
   refine retX Tryz.results163 ?_
   rw [hr]
   exact .c _
theorem z3j (e : EN) (name : List UInt8) : Told Tryz.prog 164 [e.av, .pp [.v (.string (str name))]] (.c (.v (.bool (isE name e)))) := by
 have hN := q7g e.n.kind
 obtain ⟨V, hV⟩ : ∃ V, V = isE name e := ⟨_, rfl⟩
 rw [← hV]
 unfold isE isN at hV
 replace hV := Lib.hid hV
 rw [EN.av_eq, q43]
 refine VC.toldP ent_164 Tryz.func164 rfl Tryz.ntmps164 fun hb => ?_
 clear hb
 refine q0c ?_
 refine q0h (hN) ?_
 refine q0d (@q3i) ?_
 refine retX Tryz.results164 ?_
 rw [hV.out]
 exact .c _
theorem j8f (es : List EN) (r : Int) (name : List UInt8) : Told Tryz.prog 119 [.agg [.c (.sl 10 (es.map EN.cells)), .c (.v (.int .i64 r))], .c (.v (.string (str name)))] (.c (.v (.int .i64 (q1v (es.map fun e => q0k e.n) name)))) := by
 have hF := ixfE_told (g := 164) (fs := []) (cs := [.pp [.v (.string (str name))]]) rfl rfl es (isE name) fun n _ => z3j n name
 rw [← findH_idx] at hF
 generalize q1v (es.map fun e => q0k e.n) name = V at *
 refine VC.toldP ent_119 Tryz.func119 rfl Tryz.ntmps119 fun hb => ?_
 clear hb
 refine q0c ?_
 (refine AO.step fun K hK => ?_; simp only [go_sem, Int.reduceBEq, Int.reduceLE, Int.reduceLT, Int.reduceNeg, Nat.reduceAdd, Nat.reduceEqDiff, Nat.reduceLT, Nat.reduceLeDiff, Nat.reduceMul, Nat.reduceSub, reduceCtorEq, ↓reduceIte]; (first | refine q0g ?_ | skip))
 refine .inr (.inl ⟨.c (.v (.int .i64 V)), [.c (.sl 10 (es.map EN.cells)), .fn (.func 164) [] [.pp [.v (.string (str name))]]], [8], ⟨by rfl, rfl, fun k x z h5 h6 => ?_, rfl, hF⟩, hK _ _ _ ?_⟩)
 · match k with
   | 0 => obtain rfl := Option.some.inj h5; obtain rfl := Option.some.inj h6; exact .same _
   | 1 =>
     obtain rfl := Option.some.inj h5
     obtain rfl := Option.some.inj h6
     refine .fn rfl (by simp) rfl fun k x z h7 h8 => ?_
     match k with
     | 0 => obtain rfl := Option.some.inj h7; obtain rfl := Option.some.inj h8; exact View.ref (es := [.v (.string (str name))]) rfl rfl rfl rfl
     | k + 1 => simp at h7
   | k + 2 => simp at h5
 clear hK K
 refine q0c ?_
 refine retX Tryz.results119 ?_
 exact .c _

theorem j8u (s : ByteArray) (c : Int) : Told Tryz.prog 155 [.c (.v (.string s)), .c (.v (.int .u8 c))] (.c (.v (.int .i64 (Lib.indexByte s.data.toList c.toNat.toUInt8)))) :=
 z1d (xs := [.string s, .int .u8 c]) ent_155 rfl fun W => Tryz.strings_IndexByte s c W

theorem z3u (s : List UInt8) (hs : s.length ≤ 1000000000) : Told Tryz.prog 90 [.c (.v (.string (str s))), .c (.v (.int .u8 46))] (.c (.v (.int .i64 (dotI s)))) := by
 obtain ⟨V, hV⟩ : ∃ V, V = dotI s := ⟨_, rfl⟩
 rw [← hV]
 have hw0 : IntKind.i64.wrap ((s.length : Int) - 1) = (s.length : Int) - 1 := q1g (by omega) (by omega)
 refine VC.toldP ent_90 Tryz.func90 rfl Tryz.ntmps90 fun hb => ?_
 clear hb
 refine q0d (And.intro @q3h hw0) ?_
 refine VC.loop (ι := {x : Nat // x ≤ s.length ∧ 46 ∉ s.drop x}) (fun q => [(0, .c (.v (.string (str s)))), (1, .c (.v (.int .u8 46))), (5, .c (.v (.int .i64 ((q.1 : Int) - 1))))]) (fun _ => []) 800 (fun q => q.1) ⟨s.length, Nat.le_refl _, by simp⟩ ?_ ?_
 · exact j11
 rintro ⟨i, hi, hd⟩
 simp only []
 cases i with
 | zero =>
   have hf : V = -1 := by rw [hV]; exact dotI_no (by simpa using hd)
   subst hf
   rw [show ((0 : Nat) : Int) - 1 = -1 from rfl]
   refine q1m ?_
   refine retX Tryz.results90 ?_
   exact .c _
 | succ j =>
   obtain ⟨c, hx⟩ : ∃ c, s[j]? = some c := ⟨s[j], List.getElem?_eq_getElem (by omega)⟩
   rw [show ((j + 1 : Nat) : Int) - 1 = (j : Int) by omega]
   have hge : decide ((j : Int) ≥ 0) = true := by simp
   have hw : IntKind.i64.wrap ((j : Int) - 1) = (j : Int) - 1 := q1g (by omega) (by omega)
   refine q06 (And.intro @q3h (And.intro @q89 (And.intro hx hge))) ?_
   refine VC.cond (by rfl) (by trivial) (fun hc2 => ?_) (fun hc2 => ?_)
   · have hcd : c = 46 := by
      simp at hc2
      exact UInt8.toNat_inj.1 (by simp; omega)
     have hf : V = (j : Int) := by rw [hV]; exact dotI_at (by rw [hx, hcd]) hd
     subst hf
     refine q0c ?_
     refine retX Tryz.results90 ?_
     exact .c _
   · have hcd : c ≠ 46 := by
      rintro rfl
      simp at hc2
     refine q0d (hw) ?_
     refine .next ⟨j, by omega, ?_⟩ ?_ (by simp only []; omega)
     · rw [List.drop_eq_getElem_cons (by omega), (List.getElem?_eq_some_iff.1 hx).2]
       intro hm
       rcases List.mem_cons.1 hm with e | hm
       · exact hcd e.symm
       · exact hd hm
     exact j11
theorem z3t (s : List UInt8) (hs : s.length ≤ 1000000000) : Told Tryz.prog 51 [.c (.v (.string (str s))), .c (.v (.int .u8 46))] (.c (.v (.int .i64 (dotI s)))) := by
 have hL := z3u s hs
 refine VC.toldP ent_51 Tryz.func51 rfl Tryz.ntmps51 fun hb => ?_
 clear hb
 refine q0c ?_
 refine q0h (hL) ?_
 refine q0c ?_
 refine retX Tryz.results51 ?_
 exact .c _
theorem z03 (s : List UInt8) (hs : s.length ≤ 1000000000) : Told Tryz.prog 18 [.c (.v (.string (str s)))] (.c (.v (.string (str (q2f s))))) := by
 have hL := z3t s hs
 rcases j27 s with ⟨h1, h2⟩ | ⟨j, hj, h2, h3, h4⟩
 · rw [space_no h2]
   rw [h2] at hL
   have hm : max (-1 : Int) 0 = 0 := rfl
   have hx : (str s).extract 0 0 = str [] := by rw [j39]; rfl
   refine VC.toldP ent_18 Tryz.func18 rfl Tryz.ntmps18 fun hb => ?_
   clear hb
   refine q0c ?_
   refine q0h (hL) ?_
   refine q0d (And.intro hm (And.intro @q3h hx)) ?_
   refine retX Tryz.results18 ?_
   exact .c _
 · rw [space_at h2]
   rw [h2] at hL
   have hm : max (j : Int) 0 = (j : Int) := by omega
   have hx : (str s).extract 0 j = str (s.take j) := by rw [j39, List.drop_zero]
   refine VC.toldP ent_18 Tryz.func18 rfl Tryz.ntmps18 fun hb => ?_
   clear hb
   refine q0c ?_
   refine q0h (hL) ?_
   refine q0d (And.intro hm (And.intro @q3h hx)) ?_
   refine retX Tryz.results18 ?_
   exact .c _

theorem strJ (l m : List UInt8) : str l ++ str m = str (l ++ m) := ByteArray.mk_append_mk l m
def q6s (o : Option (List UInt8)) : AV := .tup [.c (.v (.string (str (o.getD [])))), .c (.v (.bool o.isSome))]
theorem dot_mem (s : List UInt8) : 0 ≤ dotI s ↔ 46 ∈ s := by
 rcases j27 s with ⟨h1, h2⟩ | ⟨j, hj, h2, h3, h4⟩
 · rw [h2]
   exact ⟨fun h => absurd h (by decide), fun h => absurd h h1⟩
 · rw [h2]
   exact ⟨fun _ => by rw [h3]; simp, fun _ => by omega⟩
theorem index_mem (s : List UInt8) : 0 ≤ Lib.indexByte s 46 ↔ 46 ∈ s := by
 induction s with
 | nil => simp [Lib.indexByte]
 | cons b l ih =>
   rw [Lib.indexByte]
   by_cases hb : b = 46
   · subst hb
     simp
   · rw [if_neg (by simpa using hb)]
     have : 46 ∈ b :: l ↔ 46 ∈ l := by simp [Ne.symm hb]
     rw [this, ← ih]
     have hge : Lib.indexByte l 46 = -1 ∨ 0 ≤ Lib.indexByte l 46 := by
      rcases j5c 46 l with ⟨h, _⟩ | ⟨i, _, h, _⟩
      · exact .inl h
      · exact .inr (by rw [h]; omega)
     rcases hge with h | h
     · rw [h]; decide
     · rw [if_neg (by simp; omega)]
       omega
theorem j5f (sp name : List UInt8) (h1 : sp.length ≤ 100000000) (h2 : name.length ≤ 100000000) : Told Tryz.prog 118 [.c (.v (.string (str sp))), .c (.v (.string (str name)))] (q6s (q1q sp name)) := by
 have hI := j8u (str name) 46
 rw [q89, show (46 : Int).toNat.toUInt8 = 46 from rfl] at hI
 have hS := q7l name (by omega)
 have hF := j19 name (by omega)
 have hF2 := j19 (sp ++ 46 :: name) (by simp; omega)
 have hcat : str sp ++ (⟨#[46]⟩ : ByteArray) ++ str name = str (sp ++ 46 :: name) := by
  rw [show (⟨#[46]⟩ : ByteArray) = str [46] from rfl, strJ, strJ]
  simp
 have hz : (⟨#[46]⟩ : ByteArray).size = 1 := rfl
 have hi := index_mem name
 have hdm := dot_mem name
 have hJ : q1q sp name = if 0 ≤ Lib.indexByte name 46 then (if q2n name = true then some name else none)
   else if q1b name = false then none
   else if sp = [] then (if q2n name = true then some name else none)
   else if q2n (sp ++ 46 :: name) = true then some (sp ++ 46 :: name) else none := by
  unfold q1q
  by_cases h : 46 ∈ name
  · rw [if_pos (hdm.2 h), if_pos (hi.2 h)]
  · rw [if_neg (fun h' => h (hdm.1 h')), if_neg (fun h' => h (hi.1 h'))]
 unfold q6s
 rw [hJ]
 clear hJ hi hdm
 obtain ⟨I, hIe⟩ : ∃ I, I = Lib.indexByte name 46 := ⟨_, rfl⟩
 rw [← hIe] at hI ⊢
 replace hIe := Lib.hid hIe
 refine VC.toldP ent_118 Tryz.func118 rfl Tryz.ntmps118 fun hb => ?_
 clear hb
 refine q0c ?_
 refine q0h (hI) ?_
 refine q0c ?_
 refine VC.cond (by rfl) (by trivial) (fun h1 => ?_) (fun h1 => ?_)
 · rw [if_pos (by simpa using h1)]
   refine q0c ?_
   refine q0h (hF) ?_
   refine q0c ?_
   refine VC.cond (by rfl) (by trivial) (fun h2 => ?_) (fun h2 => ?_)
   · rw [if_neg (by simpa using h2)]
     refine q0c ?_
     refine retX Tryz.results118 ?_
     exact ⟨.c _, .c _⟩
   · rw [if_pos (by simpa using h2)]
     refine q0c ?_
     refine retX Tryz.results118 ?_
     exact ⟨.c _, .c _⟩
 · rw [if_neg (by simpa using h1)]
   refine q0c ?_
   refine q0h (hS) ?_
   refine q0c ?_
   refine VC.cond (by rfl) (by trivial) (fun h2 => ?_) (fun h2 => ?_)
   · rw [if_pos (by simpa using h2)]
     refine q0c ?_
     refine retX Tryz.results118 ?_
     exact ⟨.c _, .c _⟩
   · rw [if_neg (by simpa using h2)]
     refine q0c ?_
     refine VC.cond (by rfl) (by trivial) (fun h3 => ?_) (fun h3 => ?_)
     · have hn : sp ≠ [] := by
        rintro rfl
        simp [q3i] at h3
       rw [if_neg hn]
       refine q0d (And.intro @q3h (And.intro hz hcat)) ?_
       refine q5p (hcat) (hF2) ?_
       refine q0c ?_
       refine VC.cond (by rfl) (by trivial) (fun h4 => ?_) (fun h4 => ?_)
       · rw [if_neg (by simpa using h4)]
         refine q0c ?_
         refine retX Tryz.results118 ?_
         exact ⟨.c _, .c _⟩
       · rw [if_pos (by simpa using h4)]
         refine q0c ?_
         refine retX Tryz.results118 ?_
         exact ⟨.c _, .c _⟩
     · have hn : sp = [] := by
        simpa [q3i] using h3
       rw [if_pos hn]
       refine q0c ?_
       refine q0h (hF) ?_
       refine q0c ?_
       refine VC.cond (by rfl) (by trivial) (fun h4 => ?_) (fun h4 => ?_)
       · rw [if_neg (by simpa using h4)]
         refine q0c ?_
         refine retX Tryz.results118 ?_
         exact ⟨.c _, .c _⟩
       · rw [if_pos (by simpa using h4)]
         refine q0c ?_
         refine retX Tryz.results118 ?_
         exact ⟨.c _, .c _⟩
theorem z4c (sp ar name : List UInt8) (given : Bool) (h1 : sp.length ≤ 100000000) (h2 : name.length ≤ 100000000) (h3 : ar.length ≤ 100000000) : Told Tryz.prog 168 [.c (.v (.string (str name))), .c (.v (.string (str sp))), .c (.v (.bool given)), .c (.v (.string (str ar)))] (q6s (q1q (if given = true then sp else ar) name)) := by
 have hJ := j5f (if given = true then sp else ar) name (by split <;> assumption) h2
 unfold q6s at hJ ⊢
 generalize q1q (if given = true then sp else ar) name = o at hJ ⊢
 cases given with
 | true =>
   rw [if_pos rfl] at hJ
   refine VC.toldP ent_168 Tryz.func168 rfl Tryz.ntmps168 fun hb => ?_
   clear hb
   refine q1m ?_
   refine q0h (hJ) ?_
   refine q0c ?_
   refine retX Tryz.results168 ?_
   exact ⟨.c _, .c _⟩
 | false =>
   rw [if_neg (by simp)] at hJ
   refine VC.toldP ent_168 Tryz.func168 rfl Tryz.ntmps168 fun hb => ?_
   clear hb
   refine q1m ?_
   refine q0h (hJ) ?_
   refine q0c ?_
   refine retX Tryz.results168 ?_
   exact ⟨.c _, .c _⟩

theorem Rep.less {W : World} {ro : Nat → Prop} {φ : Nat → Value} {h h' : Nat → Option Blkd} (hh : ∀ j B', h' j = some B' → ∃ B, h j = some B ∧ B.len = B'.len ∧ B.z = B'.z) {x : AV} {v : Value} (hr : Rep W ro φ h x v) : Rep W ro φ h' x v := by
 induction hr with
 | any v => exact .any v
 | c hp => exact .c hp
 | @ref j n i off v h1 hv =>
   refine .ref h1 fun B' hB' hn => ?_
   obtain ⟨B, h2, h3, h4⟩ := hh j B' hB'
   rw [← h4]
   exact hv B h2 (h3.trans hn)
 | @row j n v h1 hv =>
   refine .row h1 fun B' hB' hn => ?_
   obtain ⟨B, h2, h3, h4⟩ := hh j B' hB'
   exact hv B h2 (h3.trans hn)
 | pp hb hc hp => exact .pp hb hc hp
 | agg hl hx ih => exact .agg hl ih
 | tup hl hx ih => exact .tup hl ih
 | opt hx hu ih => exact .opt ih hu
 | fn hl hx hl' hx' ih ih' => exact .fn hl ih hl' ih'
def hidA (r n : Nat) (x : Value) : AV → AV
 | .row j m => if j = r ∧ m = n then .c (.v x) else .row j m
 | a => a
theorem j49 (r n : Nat) (x : Value) (a : AV) : (a = .row r n ∧ hidA r n x a = .c (.v x)) ∨ hidA r n x a = a := by
 cases a with
 | row j m =>
   unfold hidA
   by_cases h : j = r ∧ m = n
   · obtain ⟨rfl, rfl⟩ := h
     exact .inl ⟨rfl, if_pos ⟨rfl, rfl⟩⟩
   · exact .inr (if_neg h)
 | _ => exact .inr rfl
def hidB (r n : Nat) (x : Value) (B : Blkd) : Blkd := ⟨B.row, B.T, B.z, B.elems.map fun e => e.map (hidA r n x)⟩
theorem q8m (r n : Nat) (x : Value) (B : Blkd) : (hidB r n x B).len = B.len := by unfold hidB Blkd.len; simp
theorem j8t (r n : Nat) (x : Value) (a : AV) : (hidA r n x a).cellish = a.cellish := by
 rcases j49 r n x a with ⟨rfl, h⟩ | h <;> rw [h] <;> rfl
theorem j3k (r n : Nat) (x : Value) : ∀ l : List (List AV), (l.map fun e => e.map (hidA r n x)).flatten = l.flatten.map (hidA r n x)
 | [] => rfl
 | e :: l => by rw [List.map_cons, List.flatten_cons, List.flatten_cons, List.map_append, j3k r n x l]
theorem j5m {f : Blkd → Blkd} {L : List (Option Blkd)} {j : Nat} {B' : Blkd} (h : q0e (L.map (Option.map f)) j = some B') : ∃ B, q0e L j = some B ∧ B' = f B := by
 obtain ⟨h1, h2⟩ := q37 h
 rw [List.getElem?_map] at h2
 obtain ⟨b, h3, h4⟩ := Option.map_eq_some_iff.1 h2
 obtain ⟨B, rfl, rfl⟩ := Option.map_eq_some_iff.1 h4
 refine ⟨B, ?_, rfl⟩
 unfold q0e
 rw [if_pos h1, h3]
 rfl
theorem z3x {f : Blkd → Blkd} {L : List (Option Blkd)} {j : Nat} {B : Blkd} (h : q0e L j = some B) : q0e (L.map (Option.map f)) j = some (f B) := by
 obtain ⟨h1, h2⟩ := q37 h
 unfold q0e
 rw [if_pos h1, List.getElem?_map, h2]
 rfl
theorem j5l {L : List (Option Blkd)} {o : Option Blkd} {j : Nat} {B : Blkd} (h : q0e L j = some B) : q0e (L ++ [o]) j = some B := by
 obtain ⟨h1, h2⟩ := q37 h
 unfold q0e
 rw [if_pos h1, List.getElem?_append_left (List.getElem?_eq_some_iff.1 h2).1, h2]
 rfl
theorem z3w {L : List (Option Blkd)} {R : Blkd} {j : Nat} {B : Blkd} (h : q0e (L ++ [some R]) j = some B) : (j = 1000000 + L.length ∧ B = R) ∨ (j < 1000000 + L.length ∧ q0e L j = some B) := by
 obtain ⟨h1, h2⟩ := q37 h
 by_cases hj : j - 1000000 < L.length
 · rw [List.getElem?_append_left hj] at h2
   refine .inr ⟨by omega, ?_⟩
   unfold q0e
   rw [if_pos h1, h2]
   rfl
 · rw [List.getElem?_append_right (by omega)] at h2
   have hlt := (List.getElem?_eq_some_iff.1 h2).1
   simp at hlt
   rw [show j - 1000000 - L.length = 0 by omega] at h2
   obtain rfl := Option.some.inj (Option.some.inj h2)
   exact .inl ⟨by omega, rfl⟩
theorem j88 {L : List (Option Blkd)} {R : Blkd} : q0e (L ++ [some R]) (1000000 + L.length) = some R := by
 rw [j3o, List.getElem?_append_right (Nat.le_refl _)]
 simp
theorem row_one {W : World} {T : TypeId} {z n : Nat} {v : Value} {xs : List Value} (h : W.ownsRow 0 T z v n xs) : v.oneCell' = true := by
 rcases h.2 with ⟨rfl, _⟩ | ⟨g, cap, cur, rfl, _⟩ <;> rfl
theorem some_maps (f : Blkd → Blkd) (L : List Blkd) : (L.map f).map some = (L.map some).map (Option.map f) := by simp
/-- The contract of a callee that takes the cells of a row for plain values, whichever they are. -/
theorem ToldM.hide {P : Program} {f : FuncId} {args : List AV} {L : List Blkd} {L' : List (Option Blkd)} {y : AV} (R : Blkd) (hrow : R.row = true) (hpure : ∀ e ∈ R.elems, ∀ x ∈ e, ∃ p, x = .c p) (hl : L'.length = L.length)
  (hT : ∀ x : Value, x.oneCell' = true → ToldM P f args (L.map (hidB (1000000 + L.length) R.len x)) (L'.map (Option.map (hidB (1000000 + L.length) R.len x))) y)
  (hz : zOk (L ++ [R]) (L' ++ [some R])) (hsc : ScM (L' ++ [some R]) y) : ToldM P f args (L ++ [R]) (L' ++ [some R]) y := by
 refine ⟨(hT (.slice none 0 0) rfl).enters, hz, hsc, fun W ro φ vs hro hgk hargs hh => ?_⟩
 rw [List.map_append] at hargs hh ⊢
 simp only [List.map_cons, List.map_nil] at hargs hh ⊢
 have hLm : (L.map some).length = L.length := by simp
 obtain ⟨r, hr⟩ : ∃ r, r = 1000000 + L.length := ⟨_, rfl⟩
 obtain ⟨n, hn⟩ : ∃ n, n = R.len := ⟨_, rfl⟩
 have hR : q0e (L.map some ++ [some R]) r = some R := by rw [hr, ← hLm]; exact j88
 have hx1 : (φ r).oneCell' = true := by
  obtain ⟨_, _, vs, _, h4⟩ := hh.hp r R hR
  rw [if_pos hrow] at h4
  exact row_one h4
 rw [← hr, ← hn] at hT
 have hX := hT (φ r) hx1
 obtain ⟨x, hx⟩ : ∃ x, x = φ r := ⟨_, rfl⟩
 rw [← hx] at hX hx1
 obtain ⟨_, _, hsX, hout⟩ := hX
 rw [some_maps] at hout
 -- the callee's view of what is lent
 have hless : ∀ j B', q0e ((L.map some).map (Option.map (hidB r n x))) j = some B' → ∃ B, q0e (L.map some ++ [some R]) j = some B ∧ B.len = B'.len ∧ B.z = B'.z := fun j B' hB' => by
  obtain ⟨B, h1, rfl⟩ := j5m hB'
  exact ⟨B, j5l h1, (q8m _ _ _ _).symm, rfl⟩
 have hold : ∀ j B', q0e ((L.map some).map (Option.map (hidB r n x))) j = some B' → j ≠ r ∧ ∃ B, q0e (L.map some) j = some B ∧ q0e (L.map some ++ [some R]) j = some B ∧ B' = hidB r n x B := fun j B' hB' => by
  obtain ⟨B, h1, rfl⟩ := j5m hB'
  refine ⟨?_, B, h1, j5l h1, rfl⟩
  obtain ⟨h2, h3⟩ := q37 h1
  have := (List.getElem?_eq_some_iff.1 h3).1
  simp at this
  omega
 have hhX : HOk W ro φ (q0e ((L.map some).map (Option.map (hidB r n x)))) := by
  refine ⟨fun j B' hB' => ?_, fun j k B B' b hj hk hne hb => ?_, fun j B b hj hb => ?_⟩
  · obtain ⟨_, B, h1, h2, rfl⟩ := hold j B' hB'
    obtain ⟨h3, h4, ws, h5, h6⟩ := hh.hp j B h2
    refine ⟨fun i e he => ?_, fun e he z hz => ?_, ws, ?_, ?_⟩
    · change (B.elems.map fun e => e.map (hidA r n x))[i]? = some e at he
      rw [List.getElem?_map] at he
      obtain ⟨e0, h7, rfl⟩ := Option.map_eq_some_iff.1 he
      rw [List.length_map]
      exact h3 i e0 h7
    · change e ∈ B.elems.map fun e => e.map (hidA r n x) at he
      obtain ⟨e0, h7, rfl⟩ := List.mem_map.1 he
      obtain ⟨z0, h8, rfl⟩ := List.mem_map.1 hz
      rw [j8t]
      exact h4 e0 h7 z0 h8
    · change RepL W ro φ _ (B.elems.map fun e => e.map (hidA r n x)).flatten ws
      rw [j3k]
      refine ⟨by rw [List.length_map]; exact h5.1, fun k z v hz hv => ?_⟩
      rw [List.getElem?_map] at hz
      obtain ⟨z0, h7, rfl⟩ := Option.map_eq_some_iff.1 hz
      have h8 := h5.2 k z0 v h7 hv
      rcases j49 r n x z0 with ⟨rfl, h9⟩ | h9
      · rw [h9]
        cases h8 with
        | row h1' hv' =>
          have := hv' R hR hn.symm
          rw [this, ← hx]
          exact .c (.v hx1)
      · rw [h9]
        exact h8.less hless
    · rw [q8m]
      exact h6
  · obtain ⟨_, C, _, h2, _⟩ := hold j B hj
    obtain ⟨_, C', _, h3, _⟩ := hold k B' hk
    exact hh.inj j k C C' b h2 h3 hne hb
  · obtain ⟨_, C, _, h2, _⟩ := hold j B hj
    exact hh.own j C b h2 hb
 have hcall := hout W ro φ vs hro hgk ⟨hargs.1, fun j z v h1 h2 => (hargs.2 j z v h1 h2).less hless⟩ hhX
 refine hcall.mono fun e W' ⟨v, ro', φ', he, hK, hro1, hro2, hy, hH, hG, hnew⟩ => ?_
 -- the row itself stands where it stood
 have hbR : ∀ b, q0m (φ r) = some b → b < W.heap.size := fun b hb => by
  obtain ⟨_, _, ws, _, h4⟩ := hh.hp r R hR
  rw [if_pos hrow] at h4
  rcases h4.2 with ⟨h5, _⟩ | ⟨g, cap, cur, h5, _, h6, _⟩
  · rw [h5] at hb; simp [q0m] at hb
  · rw [h5] at hb
    simp [q0m] at hb
    subst hb
    exact (Array.getElem?_eq_some_iff.1 h6).1
 have hmd : ∀ b, (∃ j B, q0e ((L.map some).map (Option.map (hidB r n x))) j = some B ∧ q0m (φ j) = some b) → ∃ j B, j ≠ r ∧ q0e (L.map some ++ [some R]) j = some B ∧ q0m (φ j) = some b := fun b ⟨j, B, h1, h2⟩ => by
  obtain ⟨h3, C, _, h4, _⟩ := hold j B h1
  exact ⟨j, C, h3, h4, h2⟩
 have hrow_same : ∀ b, q0m (φ r) = some b → W'.heap[b]? = W.heap[b]? := fun b hb => hK.block b (hbR b hb) fun hm => by
  obtain ⟨j, B, h1, h2, h3⟩ := hmd b hm
  exact hh.inj j r B R b h2 hR h1 h3 hb
 have hro_same : ∀ b, ro b → W'.heap[b]? = W.heap[b]? := fun b hb => hK.block b (hro b hb) fun hm => by
  obtain ⟨j, B, _, h2, h3⟩ := hmd b hm
  exact hh.own j B b h2 h3 hb
 obtain ⟨φ2, hφ2⟩ : ∃ φ2 : Nat → Value, φ2 = fun j => if j = r then φ r else φ' j := ⟨_, rfl⟩
 have e1 : φ2 r = φ r := by rw [hφ2]; simp
 have e2 : ∀ j, j ≠ r → φ2 j = φ' j := fun j hj => by rw [hφ2]; simp [hj]
 have hLl : 1000000 + L'.length = r := by rw [hl, hr]
 have hnewl : ∀ j B, q0e (L' ++ [some R]) j = some B → (j = r ∧ B = R) ∨ (j ≠ r ∧ q0e (L'.map (Option.map (hidB r n x))) j = some (hidB r n x B) ∧ q0e L' j = some B) := fun j B hB => by
  rcases z3w hB with ⟨h1, h2⟩ | ⟨h1, h2⟩
  · exact .inl ⟨by omega, h2⟩
  · exact .inr ⟨by omega, z3x h2, h2⟩
 have hRn : q0e (L' ++ [some R]) r = some R := by rw [← hLl]; exact j88
 have hused : ∀ j, inL (L'.map (Option.map (hidB r n x))).length j → j ≠ r := fun j hj => by
  unfold inL at hj
  rw [List.length_map] at hj
  omega
 have hgo : Goes (inL (L'.map (Option.map (hidB r n x))).length) φ' φ2 (q0e (L'.map (Option.map (hidB r n x)))) (q0e (L' ++ [some R])) := fun j B hu hB => by
  rcases hnewl j B hB with ⟨h1, _⟩ | ⟨h1, h2, _⟩
  · exact absurd h1 (hused j hu)
  · exact ⟨_, h2, .inr ⟨q8m _ _ _ _, rfl, e2 j h1⟩⟩
 refine ⟨v, ro', φ2, he, ⟨hK.os, hK.tape, hK.output, hK.size, fun b hb hm => hK.block b hb fun hm' => hm ?_⟩, hro1, fun b hb => ?_, ?_, ?_, ?_, ?_⟩
 · obtain ⟨j, B, _, h2, h3⟩ := hmd b hm'
   exact ⟨j, B, h2, h3⟩
 · obtain ⟨h1, h2⟩ := hro2 b hb
   refine ⟨?_, h2⟩
   rcases h1 with h1 | h1 | h1
   · exact .inl h1
   · exact .inr (.inl h1)
   · obtain ⟨j, B, _, h4, h5⟩ := hmd b h1
     exact .inr (.inr ⟨j, B, h4, h5⟩)
 · exact hy.map hsX.1 (fun _ _ => rfl) (fun _ h => h) hgo
 · refine ⟨fun j B hB => ?_, fun j k B B' b hj hk hne hb hb' => ?_, fun j B b hj hb => ?_⟩
   · rcases hnewl j B hB with ⟨rfl, rfl⟩ | ⟨h1, h2, h3⟩
     · obtain ⟨g1, g2, ws, g3, g4⟩ := hh.hp j B hR
       refine ⟨g1, g2, ws, ⟨g3.1, fun k z v hz hv => ?_⟩, ?_⟩
       · obtain ⟨e, he, hze⟩ := List.mem_flatten.1 (List.mem_of_getElem? hz)
         obtain ⟨p, rfl⟩ := hpure e he z hze
         cases g3.2 k _ v hz hv with
         | c hp => exact .c (hp.map hro_same hro1)
       · rw [if_pos hrow] at g4 ⊢
         rw [e1]
         refine ⟨g4.1, ?_⟩
         rcases g4.2 with h5 | ⟨g, cap, cur, h5, h6, h7, h8⟩
         · exact .inl h5
         · exact .inr ⟨g, cap, cur, h5, h6, by rw [hrow_same g (by rw [h5]; rfl)]; exact h7, h8⟩
     · obtain ⟨g1, g2, ws, g3, g4⟩ := hH.hp j _ h2
       refine ⟨fun i e he => ?_, fun e he z hz => ?_, ws, ⟨?_, fun k z v hz hv => ?_⟩, ?_⟩
       · have := g1 i (e.map (hidA r n x)) (by show (B.elems.map fun e => e.map (hidA r n x))[i]? = _; rw [List.getElem?_map, he]; rfl)
         rw [List.length_map] at this
         exact this
       · have := g2 (e.map (hidA r n x)) (List.mem_map.2 ⟨e, he, rfl⟩) (hidA r n x z) (List.mem_map.2 ⟨z, hz, rfl⟩)
         rwa [j8t] at this
       · have := g3.1
         change ws.length = (B.elems.map fun e => e.map (hidA r n x)).flatten.length at this
         rw [j3k, List.length_map] at this
         exact this
       · have h5 : (hidB r n x B).elems.flatten[k]? = some (hidA r n x z) := by
          change (B.elems.map fun e => e.map (hidA r n x)).flatten[k]? = _
          rw [j3k, List.getElem?_map, hz]
          rfl
         have h6 := g3.2 k _ v h5 hv
         rcases j49 r n x z with ⟨rfl, h7⟩ | h7
         · rw [h7] at h6
           obtain rfl := q1u h6
           exact .row hx1 fun B' hB' _ => by rw [e1, hx]
         · rw [h7] at h6
           have h8 : hidA r n x z ∈ (hidB r n x B).elems.flatten := List.mem_of_getElem? h5
           obtain ⟨e', he', hze'⟩ := List.mem_flatten.1 h8
           have h9 := hsX.2 (some (hidB r n x B)) (List.mem_of_getElem? (q37 h2).2) _ rfl e' he' _ hze'
           rw [h7] at h9
           exact h6.map h9 (fun _ _ => rfl) (fun _ h => h) hgo
       · rw [q8m] at g4
         rw [e2 j h1]
         exact g4
   · rcases hnewl j B hj with ⟨rfl, rfl⟩ | ⟨h1, h2, _⟩
     · rcases hnewl k B' hk with ⟨rfl, rfl⟩ | ⟨h3, h4, _⟩
       · exact hne rfl
       · rw [e1] at hb
         rw [e2 k h3] at hb'
         rcases hnew k _ b h4 hb' with h5 | h5
         · exact absurd (hbR b hb) (by omega)
         · obtain ⟨i, C, h6, h7, h8⟩ := hmd b h5
           exact hh.inj i j C B b h7 hR h6 h8 hb
     · rcases hnewl k B' hk with ⟨rfl, rfl⟩ | ⟨h3, h4, _⟩
       · rw [e1] at hb'
         rw [e2 j h1] at hb
         rcases hnew j _ b h2 hb with h5 | h5
         · exact absurd (hbR b hb') (by omega)
         · obtain ⟨i, C, h6, h7, h8⟩ := hmd b h5
           exact hh.inj i k C B' b h7 hR h6 h8 hb'
       · rw [e2 j h1] at hb
         rw [e2 k h3] at hb'
         exact hH.inj j k _ _ b h2 h4 hne hb hb'
   · rcases hnewl j B hj with ⟨rfl, rfl⟩ | ⟨h1, h2, _⟩
     · rw [e1] at hb
       intro hr'
       rcases (hro2 b hr').1 with h5 | h5 | h5
       · exact hh.own j B b hR hb h5
       · exact absurd (hbR b hb) (by omega)
       · obtain ⟨i, C, h6, h7, h8⟩ := hmd b h5
         exact hh.inj i j C B b h7 hR h6 h8 hb
     · rw [e2 j h1] at hb
       exact hH.own j _ b h2 hb
 · intro j B' hu hB'
   rcases hnewl j B' hB' with ⟨rfl, rfl⟩ | ⟨h1, h2, _⟩
   · exact ⟨B', hR, .inr ⟨rfl, rfl, e1⟩⟩
   · have hu' : inL (L.map (hidB r n x)).length j := by
      unfold inL at hu ⊢
      rw [List.length_append, List.length_singleton] at hu
      rw [List.length_map]
      omega
     obtain ⟨B, h3, h4⟩ := hG j _ hu' h2
     obtain ⟨C, h5, rfl⟩ := j5m h3
     rw [q8m, q8m] at h4
     refine ⟨C, j5l h5, ?_⟩
     rw [e2 j h1]
     exact h4
 · intro j B b hB hb
   rcases hnewl j B hB with ⟨rfl, rfl⟩ | ⟨h1, h2, _⟩
   · rw [e1] at hb
     exact .inr ⟨j, B, hR, hb⟩
   · rw [e2 j h1] at hb
     rcases hnew j _ b h2 hb with h3 | h3
     · exact .inl h3
     · obtain ⟨i, C, _, h6, h7⟩ := hmd b h3
       exact .inr ⟨i, C, h6, h7⟩

def zJ : JT := .mk 0 0 [] [] []
theorem zJ_cells : zJ.cells = [.v (.int .i64 0), .v (.int .i64 0), .v (.string ⟨#[]⟩), .sl 5 [], .sl 1 []] := by simp [zJ, JT.cells, JT.cellsL]; rfl
theorem frz_zJ {K : Nat → Bool} (h : Nat → Option Blkd) : Frz K h (.agg [.c (.v (.int .i64 0)), .c (.v (.int .i64 0)), .c (.v (.string ⟨#[]⟩)), .c (.v (.slice none 0 0)), .c (.v (.slice none 0 0))]) (.agg (List.map AV.c zJ.cells)) := by
 rw [zJ_cells]
 exact Frz.aggL (.cons (.c _) (.cons (.c _) (.cons (.c _) (.cons (.nil 5) (.cons (.nil 1) .nil)))))
theorem q4j (t : JT) (key : List UInt8) : Told Tryz.prog 166 [t.av, .c (.v (.string (str key)))] (.tup [((jget t key).getD zJ).av, .c (.v (.bool (jget t key).isSome))]) := by
 cases t with
 | mk k n s ks xs =>
 refine VC.told ent_166 Tryz.func166 rfl Tryz.ntmps166 (by simp) (by rfl) (by simp [AV.pureB, AV.pureL, JT.av, q2q]) fun hb => ?_
 simp only [JT.av, q1h, List.map_cons, List.map_nil, j4g, q5b, pbd_v, q5h, List.mem_cons, List.not_mem_nil, or_false, forall_eq_or_imp, forall_eq, true_and, List.length_map] at hb ⊢
 have hx1 := hb.1.1.1
 clear hb
 have hil := idxS_le key ks
 obtain ⟨i, hi⟩ : ∃ i, i = idxS key ks := ⟨_, rfl⟩
 have hcall := z02 ks key
 have hg : jget (.mk k n s ks xs) key = if k = 6 ∧ 0 ≤ i then xs[i.toNat]? else none := by rw [hi]; rfl
 rw [hg]
 rw [← hi] at hcall hil
 clear hg hi
 refine q0c ?_
 (refine AO.step fun K hK => ?_; simp only [go_sem, Int.reduceBEq, Int.reduceLE, Int.reduceLT, Int.reduceNeg, Nat.reduceAdd, Nat.reduceEqDiff, Nat.reduceLT, Nat.reduceLeDiff, Nat.reduceMul, Nat.reduceSub, reduceCtorEq, ↓reduceIte]; (first | refine q0g ?_ | skip))
 refine .inl ⟨_, hcall, hK _ _ _ ?_⟩
 clear hK K
 refine q0c ?_
 refine VC.cond (by rfl) (by trivial) (fun hc => ?_) (fun hc => ?_)
 · have hn : (if k = 6 ∧ 0 ≤ i then xs[i.toNat]? else none) = none := by
    split
    · rename_i h
      rw [List.getElem?_eq_none]
      simp [h.1, Int.not_lt.2 h.2] at hc
      omega
    · rfl
   rw [hn]
   refine q0c ?_
   refine ⟨.inr rfl, ?_⟩
   rw [Tryz.results166]
   simp only [q1n, resV, go_sem, simprocAttr]
   exact ⟨frz_zJ _, .c _⟩
 · have hk : k = 6 ∧ 0 ≤ i ∧ i < xs.length := by
    simp at hc
    omega
   obtain ⟨rfl, h0, h1⟩ := hk
   obtain ⟨x, hx⟩ : ∃ x, xs[i.toNat]? = some x := ⟨xs[i.toNat], List.getElem?_eq_getElem (by omega)⟩
   rw [if_pos ⟨rfl, h0⟩, hx]
   (repeat (first | refine pass ?_ | refine VC.region (by rfl) (by rfl) ?_ | (refine AO.step fun K hK => ?_; simp only [List.getElem?_map, hx, q2o, q3a, q2y, go_sem, Int.reduceBEq, Int.reduceLE, Int.reduceLT, Int.reduceNeg, Nat.reduceAdd, Nat.reduceEqDiff, Nat.reduceLT, Nat.reduceLeDiff, Nat.reduceMul, Nat.reduceSub, reduceCtorEq, ↓reduceIte]; (first | refine q07 ?_ | refine q0g ?_ | skip); (first | refine hK _ _ _ ?_ | refine ⟨by first | omega | exact ⟨_, rfl, rfl⟩ | exact fun _ => ⟨_, rfl, rfl⟩ | (intro h; simp only [List.getElem?_map, hx, q2o, q3a, q2y, h, true_and]; omega) | (clear hK; intro h; simp_all <;> omega), hK _ _ _ ?_⟩); clear hK K) | refine VC.draw mixP (by rfl) (by rfl) ?_ | refine ⟨q08 (by kernel_rfl), ?_⟩ | refine BQ.other (by decide) ?_ | refine VC.seq ?_ | refine AO.nil ?_ | refine VC.block ?_))
   refine ⟨.inr rfl, ?_⟩
   rw [Tryz.results166]
   simp only [q2o, q2y, q1n, resV, go_sem, simprocAttr]
   exact ⟨Frz.cs _ _, .c _⟩

def xW (n : Nat) (e : Int) : Blkd := ⟨false, 60, 3, [[.row 1000001 n, .c (.v (.int .i64 0)), .c (.v (.int .i64 e))]]⟩
def xN (es : List EN) : Blkd := ⟨true, 40, 10, rA EN.cells es⟩
def fl (e : Int) (b : Bool) (c : Int) : Int := if e ≠ 0 then e else if b = true then c else 0
theorem q1p (e : Int) (b : Bool) (c : Int) (h : e ≠ 0) : fl e b c = e := by unfold fl; rw [if_pos h]
theorem fl_ok (b : Bool) (c : Int) : fl 0 b c = if b = true then c else 0 := by unfold fl; rw [if_neg (by simp)]
theorem q15 (es : List EN) (n : Nat) (hn : n = es.length) (e c : Int) (b : Bool) : ToldM Tryz.prog 36 [.ref 1000000 1 0 0, .c (.v (.bool b)), .c (.v (.int .i64 c))] [xW n e, xN es] [some (xW n (fl e b c)), some (xN es)] (.tup []) := by
 unfold xW xN
 cases b with
 | false =>
   have hf : fl e false c = e := by unfold fl; split; rfl; simp; omega
   rw [hf]
   refine VC.toldXF (And.intro @q0a (And.intro @q0i hn)) ent_36 [] Tryz.func36 rfl Tryz.ntmps36 fun hb hbL => ?_
   clear hb hbL
   refine q1m ?_
   exact retZF (@q0b) Tryz.results36
 | true =>
   by_cases he : e = 0
   · subst he
     rw [fl_ok, if_pos rfl]
     refine VC.toldXF (And.intro @q0a (And.intro @q0i hn)) ent_36 [] Tryz.func36 rfl Tryz.ntmps36 fun hb hbL => ?_
     clear hb hbL
     refine q1m ?_
     exact retZF (@q0b) Tryz.results36
   · rw [q1p _ _ _ he]
     have hd : (e == 0) = false := by simpa using he
     refine VC.toldXF (And.intro @q0a (And.intro @q0i hn)) ent_36 [] Tryz.func36 rfl Tryz.ntmps36 fun hb hbL => ?_
     clear hb hbL
     refine q06 (hd) ?_
     exact retZF (@q0b) Tryz.results36
def q16 (hs : List HN) (e : Int) (n : NT) : List NT × Int × Int :=
 if fl e (decide (200 ≤ hs.length)) 3 ≠ 0 then ([], 0, fl e (decide (200 ≤ hs.length)) 3) else ([n], (hs.length : Int), 0)
theorem j2x (es : List EN) (hl : es.length ≤ 200) (e : Int) (m : EN) : ToldM Tryz.prog 117 [.ref 1000000 1 0 0, m.av] [xW es.length e, xN es]
  [some (xW (if fl e (decide (200 ≤ es.length)) 3 = 0 then es ++ [m] else es).length (fl e (decide (200 ≤ es.length)) 3)), some (xN (if fl e (decide (200 ≤ es.length)) 3 = 0 then es ++ [m] else es))] (.c (.v (.int .i64 (if fl e (decide (200 ≤ es.length)) 3 = 0 then (es.length : Int) else 0)))) := by
 have hF := q15 es es.length rfl e 3 (decide (200 ≤ es.length))
 have hge : decide ((es.length : Int) ≥ 200) = decide (200 ≤ es.length) := decide_eq_decide.2 (by omega)
 generalize fl e (decide (200 ≤ es.length)) 3 = E at hF ⊢
 unfold xW xN at hF ⊢
 rw [EN.av_eq, q43]
 by_cases hE : E = 0
 · subst hE
   simp only [if_true]
   have hw : IntKind.i64.wrap (((es.length + 1 : Nat) : Int) - 1) = (es.length : Int) := by rw [show ((es.length + 1 : Nat) : Int) - 1 = (es.length : Int) by omega]; exact q1g (by omega) (by omega)
   refine VC.toldXF (And.intro @q0a @q0i) ent_117 [] Tryz.func117 rfl Tryz.ntmps117 fun hb hbL => ?_
   clear hb hbL
   refine q0d (And.intro @q0a hge) ?_
   refine q0n (And.intro @q0a (And.intro hge @q0b)) [1000000, 1000001] (hF) ?_
   have hone : rA EN.cells es ++ [[.c (.v (.int .i64 m.n.kind)), .c (.v (.string (str m.n.name))), .c (.sl 1 (m.n.aliases.map sPV)), .c m.f, .c (.sl 1 (m.n.symbols.map sPV)), .c (.v (.bool m.n.has)), .c (.v (.string (str m.n.dflt))), .c (.v (.int .i64 m.n.size)), .c (.v (.int .i64 m.n.items)), .c m.b]] = rA EN.cells (es ++ [m]) := q83 EN.cells es m
   have hlen : (es ++ [m]).length = es.length + 1 := by simp
   refine q06 (And.intro @q0b (And.intro @q0a (And.intro hone (And.intro hlen hw)))) ?_
   refine q09 (And.intro @q0b (And.intro hone hlen)) Tryz.results117 ?_
   exact .c _
 · rw [if_neg hE, if_neg hE]
   have hd : (E != 0) = true := by simpa using hE
   refine VC.toldXF (And.intro @q0a @q0i) ent_117 [] Tryz.func117 rfl Tryz.ntmps117 fun hb hbL => ?_
   clear hb hbL
   refine q0d (And.intro @q0a hge) ?_
   refine q0n (And.intro @q0a (And.intro hge @q0b)) [1000000, 1000001] (hF) ?_
   refine q06 (And.intro @q0a hd) ?_
   refine q09 (@q0b) Tryz.results117 ?_
   exact .c _
theorem q03 (j : JT) : j.cells = [.v (.int .i64 j.kd), .v (.int .i64 j.num), .v (.string (str j.txt)), .sl 5 (j.its.map JT.cells), .sl 1 (j.keys.map sPV)] := by
 cases j with
 | mk k n s ks xs =>
   rw [q1h]
   rfl
def gt (j : JT) (key : List UInt8) : JT := (jget j key).getD zJ
theorem q70 (es : List EN) (n : Nat) (hn : n = es.length) (e : Int) (j : JT) (key : List UInt8) : ToldM Tryz.prog 121 [.ref 1000000 1 0 0, j.av, .c (.v (.string (str key)))] [xW n e, xN es] [some (xW n (fl e ((gt j key).kd != 4) 30)), some (xN es)] (.c (.v (.string (str (gt j key).txt)))) := by
 have hG := q4j j key
 have hF := q15 es n hn e 30 ((gt j key).kd != 4)
 have hsome : (jget j key).isSome = false → (gt j key).kd != 4 := by
  intro h
  unfold gt
  cases hq : jget j key with
  | none => rfl
  | some y => rw [hq] at h; simp at h
 rw [show (jget j key).getD zJ = gt j key from rfl] at hG
 generalize fl e ((gt j key).kd != 4) 30 = E at hF ⊢
 generalize (jget j key).isSome = b at hG hsome
 generalize gt j key = x at *
 rw [JT.av_eq x, q03 x] at hG
 rw [JT.av_eq, q03] at hG ⊢
 generalize j.kd = j1 at *
 generalize j.num = j2 at *
 generalize j.txt = j3 at *
 generalize j.its = j4 at *
 generalize j.keys = j5 at *
 generalize x.kd = x1 at *
 generalize x.num = x2 at *
 generalize x.txt = x3 at *
 generalize x.its = x4 at *
 generalize x.keys = x5 at *
 unfold xW xN at hF ⊢
 cases b with
 | false =>
   rw [hsome rfl] at hF
   refine VC.toldXF (And.intro @q0a (And.intro @q0i hn)) ent_121 [] Tryz.func121 rfl Tryz.ntmps121 fun hb hbL => ?_
   clear hb hbL
   refine q0c ?_
   refine q0h (hG) ?_
   refine q0c ?_
   refine q0n (And.intro @q0a (And.intro @q0b hn)) [1000000, 1000001] (hF) ?_
   refine q0c ?_
   refine q09 (@q0b) Tryz.results121 ?_
   exact .c _
 | true =>
   refine VC.toldXF (And.intro @q0a (And.intro @q0i hn)) ent_121 [] Tryz.func121 rfl Tryz.ntmps121 fun hb hbL => ?_
   clear hb hbL
   refine q0c ?_
   refine q0h (hG) ?_
   refine q0c ?_
   refine q0n (And.intro @q0a (And.intro @q0b hn)) [1000000, 1000001] (hF) ?_
   refine q0c ?_
   refine q09 (@q0b) Tryz.results121 ?_
   exact .c _
theorem fl_fl (e : Int) (a b : Bool) (c : Int) (hc : c ≠ 0) : fl (fl e a c) b c = fl e (a || b) c := by
 unfold fl
 by_cases he : e = 0
 · subst he
   cases a <;> simp [hc]
 · simp [he]
def q4e (e : Int) (x : JT) : Int := fl (fl (fl e (x.kd != 5) 30) (x.its.any fun y => y.kd != 4) 30) (decide (40 < x.its.length)) 3
theorem txt_next {l : List JT} {i : Nat} {x : JT} (h : l[i]? = some x) : rA sPV ((l.take i).map JT.txt) ++ [[.c (.v (.string (str x.txt)))]] = rA sPV ((l.take (i + 1)).map JT.txt) := by
 rw [List.take_add_one, h]
 simp [rA, sPV]
theorem j4j (es : List EN) (n : Nat) (hn : n = es.length) (e : Int) (x : JT) (hl : x.its.length ≤ 1000000) : ToldM Tryz.prog 171 [.ref 1000000 1 0 0, x.av] [xW n e, xN es] [some (xW n (q4e e x)), some (xN es)] (.c (.sl 1 ((x.its.map JT.txt).map sPV))) := by
 have hF1 := q15 es n hn e 30 (x.kd != 5)
 unfold q4e
 generalize fl e (x.kd != 5) 30 = e1 at hF1 ⊢
 have hF3 := q15 es n hn (fl e1 (x.its.any fun y => y.kd != 4) 30) 3 (decide (40 < x.its.length))
 generalize fl (fl e1 (x.its.any fun y => y.kd != 4) 30) (decide (40 < x.its.length)) 3 = e3 at hF3 ⊢
 have hgt : decide ((x.its.length : Int) > 40) = decide (40 < x.its.length) := decide_eq_decide.2 (by omega)
 rw [JT.av_eq, q03]
 generalize x.kd = x1 at *
 generalize x.num = x2 at *
 generalize x.txt = x3 at *
 generalize x.its = l at *
 generalize x.keys = x5 at *
 unfold xW xN at hF1 hF3 ⊢
 refine VC.toldXF (And.intro @q0a (And.intro @q0i hn)) ent_171 [] Tryz.func171 rfl Tryz.ntmps171 fun hb hbL => ?_
 clear hb hbL
 refine q0c ?_
 refine q0n (And.intro @q0a (And.intro @q0b hn)) [1000000, 1000001] (hF1) ?_
 refine q0c ?_
 refine VC.nil 5 9 1 (by rfl) (by trivial) (by rfl) ?_
 refine VC.loop (ι := {i : Nat // i ≤ l.length}) (fun q => [(0, .ref 1000000 1 0 0), (5, .row 96 q.1), (14, .c (.sl 5 (l.map JT.cells))), (15, .c (.v (.int .i64 (l.length : Int)))), (16, .c (.v (.int .i64 (q.1 : Int))))])
  (fun q => [(1000000, ⟨false, 60, 3, [[.row 1000001 n, .c (.v (.int .i64 0)), .c (.v (.int .i64 (fl e1 ((l.take q.1).any fun y => y.kd != 4) 30)))]]⟩), (1000001, ⟨true, 40, 10, rA EN.cells es⟩), (96, ⟨true, 9, 1, rA sPV ((l.take q.1).map JT.txt)⟩)]) 800 (fun q => l.length - q.1) ⟨0, Nat.zero_le _⟩ ?_ ?_
 · have h0 : fl e1 (([] : List JT).any fun y => y.kd != 4) 30 = e1 := by
    unfold fl
    split
    · rfl
    · simp; omega
   simp only [q60, q0a, q0i, q0b, hn, List.take_zero, h0, Weak, eq_self, q0x, q0r, sc_c, q0t, q0u, q0v, q0q, q0s, ScL, q0w, List.forall_mem_map, go_sem, Int.reduceBEq, Int.reduceLE, Int.reduceLT, Int.reduceNeg, Nat.reduceAdd, Nat.reduceEqDiff, Nat.reduceLT, Nat.reduceLeDiff, Nat.reduceMul, Nat.reduceSub, reduceCtorEq, ↓reduceIte]
   exact Nat.le_refl _
 rintro ⟨i, hi⟩
 simp only []
 have hti : ((l.take i).map JT.txt).length = i := by simp; omega
 refine q0c ?_
 refine VC.cond (by rfl) (by trivial) (fun hc => ?_) (fun hc => ?_)
 · have hlt : i < l.length := by simp at hc; omega
   obtain ⟨y, hy⟩ : ∃ y, l[i]? = some y := ⟨l[i], List.getElem?_eq_getElem hlt⟩
   have hyp : (l.map JT.cells)[i]? = some [.v (.int .i64 y.kd), .v (.int .i64 y.num), .v (.string (str y.txt)), .sl 5 (y.its.map JT.cells), .sl 1 (y.keys.map sPV)] := by rw [List.getElem?_map, hy, ← q03]; rfl
   have hw : IntKind.i64.wrap ((i : Int) + 1) = (i : Int) + 1 := q1g (by omega) (by omega)
   have hap := txt_next hy
   have hti2 : ((l.take (i + 1)).map JT.txt).length = i + 1 := by simp; omega
   have hany : (l.take (i + 1)).any (fun y => y.kd != 4) = ((l.take i).any (fun y => y.kd != 4) || y.kd != 4) := by
    rw [List.take_add_one, hy]
    simp
   have hE := fl_fl e1 ((l.take i).any fun y => y.kd != 4) (y.kd != 4) 30 (by decide)
   rw [← hany] at hE
   have hF2 := q15 es n hn (fl e1 ((l.take i).any fun y => y.kd != 4) 30) 30 (y.kd != 4)
   unfold xW xN at hF2
   rw [hE] at hF2
   generalize fl e1 ((l.take i).any fun y => y.kd != 4) 30 = ei at *
   refine q0d (hyp) ?_
   refine q0n (And.intro @q0a (And.intro @q0b hn)) [1000000, 1000001] (hF2) ?_
   refine q0d (And.intro @q0a (And.intro hti (And.intro hap hw))) ?_
   refine .next ⟨i + 1, by omega⟩ ?_ (by simp only []; omega)
   refine q3l (And.intro @q0a (And.intro @q0i (And.intro @q0b (And.intro hti2 hn)))) ?_
   exact ⟨cI (by omega), Nat.le_refl _, Nat.le_refl _⟩
 · have hie : i = l.length := by simp at hc; omega
   subst hie
   rw [List.take_length] at *
   refine q0d (And.intro @q0a (And.intro hti hgt)) ?_
   refine q0n (And.intro @q0a (And.intro @q0b hn)) [1000000, 1000001] (hF3) ?_
   refine q0d (@q0a) ?_
   refine q09 (@q0b) Tryz.results171 ?_
   exact q6o (f := sPV) (T := 9) rfl (by rw [List.length_map]) rfl fun x _ => rfl

def q40 (j : JT) (v : List UInt8 → List UInt8) : List (List UInt8) := if (jget j q1f).isSome = true then ((gt j q1f).its.map JT.txt).map v else []
def q3t (e : Int) (j : JT) (ok : List UInt8 → Bool) : Int := if (jget j q1f).isSome = true then fl (q4e e (gt j q1f)) (((gt j q1f).its.map JT.txt).any fun s => !ok s) 31 else e
theorem al_next {l : List (List UInt8)} {v : List UInt8 → List UInt8} {i : Nat} {x : List UInt8} (h : l[i]? = some x) : rA sPV ((l.take i).map v) ++ [[.c (.v (.string (str (v x))))]] = rA sPV ((l.take (i + 1)).map v) := by
 rw [List.take_add_one, h]
 simp [rA, sPV]
theorem z2d (es : List EN) (n : Nat) (hn : n = es.length) (e : Int) (j : JT) (hl : (gt j q1f).its.length ≤ 1000000) {g : FuncId} {fs cs : List AV} (hp : AV.pureL fs = true) (hp' : AV.pureL cs = true) (v : List UInt8 → List UInt8) (ok : List UInt8 → Bool)
  (hk : ∀ x ∈ (gt j q1f).its, Told Tryz.prog g (fs ++ ([.c (.v (.string (str x.txt)))] ++ cs)) (.tup [.c (.v (.string (str (v x.txt)))), .c (.v (.bool (ok x.txt)))])) :
  ToldM Tryz.prog 169 [.ref 1000000 1 0 0, j.av, .fn (.func g) fs cs] [xW n e, xN es] [some (xW n (q3t e j ok)), some (xN es)] (.c (.sl 1 ((q40 j v).map sPV))) := by
 have hG := q4j j q1f
 have hT := j4j es n hn e (gt j q1f) hl
 unfold q40 q3t
 rw [show (jget j q1f).getD zJ = gt j q1f from rfl] at hG
 rw [show (gt j q1f).its.map JT.txt = (gt j q1f).its.map JT.txt from rfl] at hT
 generalize (jget j q1f).isSome = b at hG ⊢
 generalize q4e e (gt j q1f) = e1 at hT ⊢
 have hk' : ∀ s ∈ (gt j q1f).its.map JT.txt, Told Tryz.prog g (fs ++ ([.c (.v (.string (str s)))] ++ cs)) (.tup [.c (.v (.string (str (v s)))), .c (.v (.bool (ok s)))]) := fun s hs => by
  obtain ⟨x, hx, rfl⟩ := List.mem_map.1 hs
  exact hk x hx
 clear hk
 have hl' : ((gt j q1f).its.map JT.txt).length ≤ 1000000 := by rw [List.length_map]; exact hl
 clear hl
 generalize (gt j q1f).its.map JT.txt = l at *
 generalize gt j q1f = x at *
 rw [JT.av_eq x, q03 x] at hG hT
 rw [JT.av_eq, q03] at hG ⊢
 generalize j.kd = j1 at *
 generalize j.num = j2 at *
 generalize j.txt = j3 at *
 generalize j.its = j4 at *
 generalize j.keys = j5 at *
 generalize x.kd = x1 at *
 generalize x.num = x2 at *
 generalize x.txt = x3 at *
 generalize x.its = x4 at *
 generalize x.keys = x5 at *
 rw [q1f, q33 [97, 108, 105, 97, 115, 101, 115]] at hG
 unfold xW xN at hT ⊢
 have hq1 : ∀ (used : Nat → Prop) (h : Nat → Option Blkd), (∀ x ∈ fs, Sc used h x) = True := fun used h => q22 hp
 have hq2 : ∀ (used : Nat → Prop) (h : Nat → Option Blkd), (∀ x ∈ cs, Sc used h x) = True := fun used h => q22 hp'
 cases b with
 | false =>
   simp only [Bool.false_eq_true, if_false]
   refine VC.toldXF (And.intro @q0a (And.intro @q0i (And.intro hn (And.intro hq1 hq2)))) j29 [] Tryz.func169 rfl Tryz.ntmps169 fun hb hbL => ?_
   clear hb hbL
   refine q0c ?_
   refine q0h (hG) ?_
   refine q1m ?_
   refine q09 (@q0b) Tryz.results169 ?_
   exact .nil 1
 | true =>
   simp only [if_true]
   refine VC.toldXF (And.intro @q0a (And.intro @q0i (And.intro hn (And.intro hq1 hq2)))) j29 [] Tryz.func169 rfl Tryz.ntmps169 fun hb hbL => ?_
   clear hb hbL
   refine q0c ?_
   refine q0h (hG) ?_
   refine q1m ?_
   refine q0n (And.intro @q0a (And.intro @q0b hn)) [1000000, 1000001] (hT) ?_
   refine q0c ?_
   refine VC.nil 9 9 1 (by rfl) (by trivial) (by rfl) ?_
   refine VC.loop (ι := {i : Nat // i ≤ l.length}) (fun q => [(0, .ref 1000000 1 0 0), (2, .fn (.func g) fs cs), (9, .row 144 q.1), (23, .c (.sl 1 (l.map sPV))), (24, .c (.v (.int .i64 (l.length : Int)))), (25, .c (.v (.int .i64 (q.1 : Int))))])
    (fun q => [(1000000, ⟨false, 60, 3, [[.row 1000001 n, .c (.v (.int .i64 0)), .c (.v (.int .i64 (fl e1 ((l.take q.1).any fun s => !ok s) 31)))]]⟩), (1000001, ⟨true, 40, 10, rA EN.cells es⟩), (144, ⟨true, 9, 1, rA sPV ((l.take q.1).map v)⟩)]) 800 (fun q => l.length - q.1) ⟨0, Nat.zero_le _⟩ ?_ ?_
   · have h0 : fl e1 (([] : List (List UInt8)).any fun s => !ok s) 31 = e1 := by
      unfold fl
      split
      · rfl
      · simp; omega
     simp only [q60, q0a, q0i, q0b, hn, List.take_zero, h0, hq1, hq2, Weak, eq_self, q0x, q0r, sc_c, q0t, q0u, q0v, q0q, q0s, ScL, q0w, List.forall_mem_map, go_sem, Int.reduceBEq, Int.reduceLE, Int.reduceLT, Int.reduceNeg, Nat.reduceAdd, Nat.reduceEqDiff, Nat.reduceLT, Nat.reduceLeDiff, Nat.reduceMul, Nat.reduceSub, reduceCtorEq, ↓reduceIte]
     exact Nat.le_refl _
   rintro ⟨i, hi⟩
   simp only []
   have hti : ((l.take i).map v).length = i := by simp; omega
   refine q0c ?_
   refine VC.cond (by rfl) (by trivial) (fun hc => ?_) (fun hc => ?_)
   · have hlt : i < l.length := by simp at hc; omega
     obtain ⟨y, hy⟩ : ∃ y, l[i]? = some y := ⟨l[i], List.getElem?_eq_getElem hlt⟩
     have hyp : (l.map sPV)[i]? = some [.v (.string (str y))] := by rw [List.getElem?_map, hy]; rfl
     have hw : IntKind.i64.wrap ((i : Int) + 1) = (i : Int) + 1 := q1g (by omega) (by omega)
     have hap := al_next (v := v) hy
     have hti2 : ((l.take (i + 1)).map v).length = i + 1 := by simp; omega
     have hany : (l.take (i + 1)).any (fun s => !ok s) = ((l.take i).any (fun s => !ok s) || !ok y) := by
      rw [List.take_add_one, hy]
      simp
     have hE := fl_fl e1 ((l.take i).any fun s => !ok s) (!ok y) 31 (by decide)
     rw [← hany] at hE
     have hF2 := q15 es n hn (fl e1 ((l.take i).any fun s => !ok s) 31) 31 (!ok y)
     unfold xW xN at hF2
     rw [hE] at hF2
     generalize fl e1 ((l.take i).any fun s => !ok s) 31 = ei at *
     have hky := hk' y (List.mem_of_getElem? hy)
     refine q0d (hyp) ?_
     ((refine AO.step fun K hK => ?_; simp only [go_sem, Int.reduceBEq, Int.reduceLE, Int.reduceLT, Int.reduceNeg, Nat.reduceAdd, Nat.reduceEqDiff, Nat.reduceLT, Nat.reduceLeDiff, Nat.reduceMul, Nat.reduceSub, reduceCtorEq, ↓reduceIte, hp, hp', q80, q2q, List.append_assoc]; (first | refine q0g ?_ | skip)); refine .inl ⟨_, hky, hK _ _ _ ?_⟩; clear hK K)
     refine q0c ?_
     refine q0n (And.intro @q0a (And.intro @q0b hn)) [1000000, 1000001] (hF2) ?_
     refine q0d (And.intro @q0a (And.intro hti (And.intro hap hw))) ?_
     refine .next ⟨i + 1, by omega⟩ ?_ (by simp only []; omega)
     refine q3l (And.intro @q0a (And.intro @q0i (And.intro @q0b (And.intro hti2 (And.intro hn (And.intro hq1 hq2)))))) ?_
     exact ⟨cI (by omega), Nat.le_refl _, Nat.le_refl _⟩
   · have hie : i = l.length := by simp at hc; omega
     subst hie
     rw [List.take_length] at *
     refine q0d (And.intro @q0a hti) ?_
     refine q09 (@q0b) Tryz.results169 ?_
     exact q6o (f := sPV) (T := 9) rfl (by rw [List.length_map]) rfl fun x _ => rfl

theorem ToldM.co {P : Program} {f : FuncId} {args args' : List AV} {L : List Blkd} {L' : List (Option Blkd)} {y : AV} (hT : ToldM P f args' L L' y) (hc : CoL args args') : ToldM P f args L L' y :=
 ⟨hT.enters, hT.zs, hT.sc, fun W ro φ vs hro hgk hl hh => hT.out W ro φ vs hro hgk ⟨by rw [hl.1, hc.at_.1], fun j y v h1 h2 => by
  have hk : j < args.length := by have := (List.getElem?_eq_some_iff.1 h1).1; have := hc.at_.1; omega
  exact (hc.at_.2 j _ y (List.getElem?_eq_getElem hk) h1).rep (hl.2 j _ v (List.getElem?_eq_getElem hk) h2)⟩ hh⟩

theorem j7r (k : Int) : Co (.agg [.c (.v (.int .i64 k)), .c (.v (.string ⟨#[]⟩)), .c (.v (.slice none 0 0)), .c (.v (.slice none 0 0)), .c (.v (.slice none 0 0)), .c (.v (.bool false)), .c (.v (.string ⟨#[]⟩)), .c (.v (.int .i64 0)), .c (.v (.int .i64 0)), .c (.v (.slice none 0 0))]) (EN.of (q1d k)).av := by
 rw [EN.av_eq, q43]
 exact Co.aggL (.cons (.same _) (.cons (.same _) (.cons (.nil 1) (.cons (.nil 9) (.cons (.nil 1) (.cons (.same _) (.cons (.same _) (.cons (.same _) (.cons (.same _) (.cons (.nil 1) .nil))))))))))
def hsE (es : List EN) : List HN := es.map fun e => q0k e.n
theorem j2w (es : List EN) (hl : es.length ≤ 200) (e : Int) (n : NT) : ToldM Tryz.prog 117 [.ref 1000000 1 0 0, (EN.of n).av] [xW es.length e, xN es]
  [some (xW (es ++ (q16 (hsE es) e n).1.map EN.of).length (q16 (hsE es) e n).2.2), some (xN (es ++ (q16 (hsE es) e n).1.map EN.of))] (.c (.v (.int .i64 (q16 (hsE es) e n).2.1))) := by
 have h := j2x es hl e (EN.of n)
 unfold q16 hsE
 rw [List.length_map]
 by_cases hE : fl e (decide (200 ≤ es.length)) 3 = 0
 · simp only [if_pos hE] at h
   rw [hE] at h
   rw [if_neg (by simpa using hE)]
   exact h
 · simp only [if_neg hE] at h
   rw [if_pos hE]
   simpa using h
theorem j2v (es : List EN) (hl : es.length ≤ 200) (e k : Int) : ToldM Tryz.prog 117 [.ref 1000000 1 0 0, .agg [.c (.v (.int .i64 k)), .c (.v (.string ⟨#[]⟩)), .c (.v (.slice none 0 0)), .c (.v (.slice none 0 0)), .c (.v (.slice none 0 0)), .c (.v (.bool false)), .c (.v (.string ⟨#[]⟩)), .c (.v (.int .i64 0)), .c (.v (.int .i64 0)), .c (.v (.slice none 0 0))]] [xW es.length e, xN es]
  [some (xW (es ++ (q16 (hsE es) e (q1d k)).1.map EN.of).length (q16 (hsE es) e (q1d k)).2.2), some (xN (es ++ (q16 (hsE es) e (q1d k)).1.map EN.of))] (.c (.v (.int .i64 (q16 (hsE es) e (q1d k)).2.1))) :=
 (j2w es hl e (q1d k)).co (.cons (.same _) (.cons (j7r k) .nil))
def q5r (hs : List HN) (w a : List UInt8) : List NT × Int × Int :=
 if 1 ≤ q0p w ∧ q0p w ≤ 8 then q16 hs 0 (q1d (q0p w))
 else ([], max (q1v hs ((q1q a w).getD [])) 0, fl (fl 0 (!(q1q a w).isSome) 31) (decide (q1v hs ((q1q a w).getD []) < 0)) 33)
theorem j7g (es : List EN) (hl : es.length ≤ 200) (s a : List UInt8) (h1 : s.length ≤ 100000000) (h2 : a.length ≤ 100000000) : ToldM Tryz.prog 70 [.ref 1000000 1 0 0, .c (.v (.string (str s))), .c (.v (.string (str a)))] [xW es.length 0, xN es]
  [some (xW (es ++ (q5r (hsE es) s a).1.map EN.of).length (q5r (hsE es) s a).2.2), some (xN (es ++ (q5r (hsE es) s a).1.map EN.of))] (.c (.v (.int .i64 (q5r (hsE es) s a).2.1))) := by
 have hK := j3n s
 have hJ := j5f a s h2 h1
 unfold q6s at hJ
 have hFr := j2v es hl 0 (q0p s)
 unfold q5r
 by_cases hk : 1 ≤ q0p s ∧ q0p s ≤ 8
 · rw [if_pos hk]
   have hg1 : decide ((q0p s : Int) ≥ 1) = true := by simp; omega
   have hg2 : decide ((q0p s : Int) ≤ 8) = true := by simp; omega
   generalize q16 (hsE es) 0 (q1d (q0p s)) = V at *
   obtain ⟨V1, V2, V3⟩ := V
   simp only [] at hFr ⊢
   generalize es ++ V1.map EN.of = es' at *
   generalize (q0p s : Int) = k at *
   unfold xW xN at hFr ⊢
   refine VC.toldXF (And.intro @q0a @q0i) ent_70 [] Tryz.func70 rfl Tryz.ntmps70 fun hb hbL => ?_
   clear hb hbL
   refine q0c ?_
   refine q0h (hK) ?_
   refine q06 (And.intro hg1 hg2) ?_
   refine q0n (And.intro @q0a @q0b) [1000000, 1000001] (hFr) ?_
   refine q0d (And.intro @q0a @q0b) ?_
   refine q09 (@q0b) Tryz.results70 ?_
   exact .c _
 · rw [if_neg hk]
   simp only [List.map_nil, List.append_nil]
   have hF := j8f es 0 ((q1q a s).getD [])
   rw [show (es.map fun e => q0k e.n) = hsE es from rfl] at hF
   have hF1 := q15 es es.length rfl 0 31 (!(q1q a s).isSome)
   have hF2 := q15 es es.length rfl (fl 0 (!(q1q a s).isSome) 31) 33 (decide (q1v (hsE es) ((q1q a s).getD []) < 0))
   generalize fl (fl 0 (!(q1q a s).isSome) 31) (decide (q1v (hsE es) ((q1q a s).getD []) < 0)) 33 = e2 at *
   generalize fl 0 (!(q1q a s).isSome) 31 = e1 at *
   generalize q1v (hsE es) ((q1q a s).getD []) = at' at *
   generalize (q1q a s).getD [] = f at *
   generalize (q1q a s).isSome = b at *
   have hkk : (q0p s : Int) < 1 ∨ (1 ≤ (q0p s : Int) ∧ 8 < (q0p s : Int)) := by omega
   generalize (q0p s : Int) = k at *
   unfold xW xN at hF1 hF2 ⊢
   rcases hkk with hkk | ⟨hkk, hkk2⟩
   · have hg1 : decide (k ≥ 1) = false := by simp; omega
     refine VC.toldXF (And.intro @q0a @q0i) ent_70 [] Tryz.func70 rfl Tryz.ntmps70 fun hb hbL => ?_
     clear hb hbL
     refine q0c ?_
     refine q0h (hK) ?_
     refine q06 (hg1) ?_
     refine q0h (hJ) ?_
     refine q0c ?_
     refine q0n (And.intro @q0a @q0b) [1000000, 1000001] (hF1) ?_
     refine q0d (And.intro @q0a @q0b) ?_
     (refine AO.step fun K hK => ?_; simp only [go_sem, Int.reduceBEq, Int.reduceLE, Int.reduceLT, Int.reduceNeg, Nat.reduceAdd, Nat.reduceEqDiff, Nat.reduceLT, Nat.reduceLeDiff, Nat.reduceMul, Nat.reduceSub, reduceCtorEq, ↓reduceIte]; (first | refine q0g ?_ | skip))
     refine .inr (.inl ⟨_, [.agg [.c (.sl 10 (es.map EN.cells)), .c (.v (.int .i64 0))], .c (.v (.string (str f)))], [1000001], ⟨by rfl, by rfl, fun k x z h5 h6 => ?_, by rfl, hF⟩, hK _ _ _ ?_⟩)
     · match k with
       | 0 =>
         obtain rfl := Option.some.inj h5
         obtain rfl := Option.some.inj h6
         refine View.agg rfl fun k x z h7 h8 => ?_
         match k with
         | 0 =>
           obtain rfl := Option.some.inj h7
           obtain rfl := Option.some.inj h8
           exact View.row (B := ⟨true, 40, 10, rA EN.cells es⟩) (es := es.map EN.cells) (by simp [q0b]) rfl (q0a _ _) (q4v _ _)
         | 1 =>
           obtain rfl := Option.some.inj h7
           obtain rfl := Option.some.inj h8
           exact .same _
         | k + 2 => simp at h7
       | 1 =>
         obtain rfl := Option.some.inj h5
         obtain rfl := Option.some.inj h6
         exact .same _
       | k + 2 => simp at h5
     clear hK K
     refine q0d (And.intro @q0a @q0b) ?_
     refine q0n (And.intro @q0a @q0b) [1000000, 1000001] (hF2) ?_
     refine q0d (And.intro @q0a @q0b) ?_
     refine q09 (@q0b) Tryz.results70 ?_
     exact .c _
   · have hg1 : decide (k ≥ 1) = true := by simp; omega
     have hg2 : decide (k ≤ 8) = false := by simp; omega
     refine VC.toldXF (And.intro @q0a @q0i) ent_70 [] Tryz.func70 rfl Tryz.ntmps70 fun hb hbL => ?_
     clear hb hbL
     refine q0c ?_
     refine q0h (hK) ?_
     refine q06 (And.intro hg1 hg2) ?_
     refine q0h (hJ) ?_
     refine q0c ?_
     refine q0n (And.intro @q0a @q0b) [1000000, 1000001] (hF1) ?_
     refine q0d (And.intro @q0a @q0b) ?_
     (refine AO.step fun K hK => ?_; simp only [go_sem, Int.reduceBEq, Int.reduceLE, Int.reduceLT, Int.reduceNeg, Nat.reduceAdd, Nat.reduceEqDiff, Nat.reduceLT, Nat.reduceLeDiff, Nat.reduceMul, Nat.reduceSub, reduceCtorEq, ↓reduceIte]; (first | refine q0g ?_ | skip))
     refine .inr (.inl ⟨_, [.agg [.c (.sl 10 (es.map EN.cells)), .c (.v (.int .i64 0))], .c (.v (.string (str f)))], [1000001], ⟨by rfl, by rfl, fun k x z h5 h6 => ?_, by rfl, hF⟩, hK _ _ _ ?_⟩)
     · match k with
       | 0 =>
         obtain rfl := Option.some.inj h5
         obtain rfl := Option.some.inj h6
         refine View.agg rfl fun k x z h7 h8 => ?_
         match k with
         | 0 =>
           obtain rfl := Option.some.inj h7
           obtain rfl := Option.some.inj h8
           exact View.row (B := ⟨true, 40, 10, rA EN.cells es⟩) (es := es.map EN.cells) (by simp [q0b]) rfl (q0a _ _) (q4v _ _)
         | 1 =>
           obtain rfl := Option.some.inj h7
           obtain rfl := Option.some.inj h8
           exact .same _
         | k + 2 => simp at h7
       | 1 =>
         obtain rfl := Option.some.inj h5
         obtain rfl := Option.some.inj h6
         exact .same _
       | k + 2 => simp at h5
     clear hK K
     refine q0d (And.intro @q0a @q0b) ?_
     refine q0n (And.intro @q0a @q0b) [1000000, 1000001] (hF2) ?_
     refine q0d (And.intro @q0a @q0b) ?_
     refine q09 (@q0b) Tryz.results70 ?_
     exact .c _

theorem q8v (n : NT) : (EN.of n).cells = [.v (.int .i64 n.kind), .v (.string (str n.name)), .sl 1 (n.aliases.map sPV), .sl 9 (n.fields.map FT.cells), .sl 1 (n.symbols.map sPV), .v (.bool n.has), .v (.string (str n.dflt)), .v (.int .i64 n.size), .v (.int .i64 n.items), .sl 1 (n.branches.map iPV)] := rfl
def q8i (e : Int) (j : JT) : Int := fl (fl e ((gt j q1w).kd != 3) 30) (decide ((gt j q1w).num < 0) || decide (1000 < (gt j q1w).num)) 3
def q5x (hs : List HN) (e : Int) (j : JT) (n : NT) : List NT × Int × Int := q16 hs (q8i e j) { n with size := (gt j q1w).num }
theorem z2i (es : List EN) (hl : es.length ≤ 200) (e : Int) (j : JT) (n : NT) : ToldM Tryz.prog 126 [.ref 1000000 1 0 0, j.av, (EN.of n).av] [xW es.length e, xN es]
  [some (xW (es ++ (q5x (hsE es) e j n).1.map EN.of).length (q5x (hsE es) e j n).2.2), some (xN (es ++ (q5x (hsE es) e j n).1.map EN.of))] (.c (.v (.int .i64 (q5x (hsE es) e j n).2.1))) := by
 have hG := q4j j q1w
 have hFr := j2w es hl (q8i e j) { n with size := (gt j q1w).num }
 have hF1 := q15 es es.length rfl e 30 ((gt j q1w).kd != 3)
 have hF2 := q15 es es.length rfl (fl e ((gt j q1w).kd != 3) 30) 3 (decide ((gt j q1w).num < 0) || decide (1000 < (gt j q1w).num))
 unfold q5x
 generalize q16 (hsE es) (q8i e j) { n with size := (gt j q1w).num } = V at *
 obtain ⟨V1, V2, V3⟩ := V
 simp only [] at hFr ⊢
 generalize es ++ V1.map EN.of = es' at *
 unfold q8i at hFr
 generalize fl (fl e ((gt j q1w).kd != 3) 30) (decide ((gt j q1w).num < 0) || decide (1000 < (gt j q1w).num)) 3 = e2 at *
 generalize fl e ((gt j q1w).kd != 3) 30 = e1 at *
 rw [show (jget j q1w).getD zJ = gt j q1w from rfl] at hG
 generalize (jget j q1w).isSome = b at hG
 generalize gt j q1w = x at *
 rw [EN.av_eq, q8v] at hFr ⊢
 simp only [] at hFr
 rw [JT.av_eq x, q03 x] at hG
 rw [JT.av_eq, q03] at hG ⊢
 generalize j.kd = j1 at *
 generalize j.num = j2 at *
 generalize j.txt = j3 at *
 generalize j.its = j4 at *
 generalize j.keys = j5 at *
 generalize x.kd = x1 at *
 generalize x.num = x2 at *
 generalize x.txt = x3 at *
 generalize x.its = x4 at *
 generalize x.keys = x5 at *
 rw [q1w, q33 [115, 105, 122, 101]] at hG
 have hgt : decide (x2 > 1000) = decide (1000 < x2) := rfl
 unfold xW xN at hF1 hF2 hFr ⊢
 rcases (show x2 < 0 ∨ 0 ≤ x2 by omega) with h0 | h0
 · have hd : decide (x2 < 0) = true := by simpa using h0
   rw [hd, Bool.true_or] at hF2
   refine VC.toldXF (And.intro @q0a @q0i) ent_126 [] Tryz.func126 rfl Tryz.ntmps126 fun hb hbL => ?_
   clear hb hbL
   refine q0c ?_
   refine q0h (hG) ?_
   refine q0c ?_
   refine q0n (And.intro @q0a @q0b) [1000000, 1000001] (hF1) ?_
   refine q0d (And.intro @q0a (And.intro @q0b hd)) ?_
   refine q0n (And.intro @q0a (And.intro @q0b hd)) [1000000, 1000001] (hF2) ?_
   refine q0d (And.intro @q0a @q0b) ?_
   refine q0n (And.intro @q0a @q0b) [1000000, 1000001] (hFr) ?_
   refine q0d (And.intro @q0a @q0b) ?_
   refine q09 (@q0b) Tryz.results126 ?_
   exact .c _
 · have hd : decide (x2 < 0) = false := by simpa using h0
   rw [hd, Bool.false_or] at hF2
   refine VC.toldXF (And.intro @q0a @q0i) ent_126 [] Tryz.func126 rfl Tryz.ntmps126 fun hb hbL => ?_
   clear hb hbL
   refine q0c ?_
   refine q0h (hG) ?_
   refine q0c ?_
   refine q0n (And.intro @q0a @q0b) [1000000, 1000001] (hF1) ?_
   refine q0d (And.intro @q0a (And.intro @q0b (And.intro hd hgt))) ?_
   refine q0n (And.intro @q0a (And.intro @q0b (And.intro hd hgt))) [1000000, 1000001] (hF2) ?_
   refine q0d (And.intro @q0a @q0b) ?_
   refine q0n (And.intro @q0a @q0b) [1000000, 1000001] (hFr) ?_
   refine q0d (And.intro @q0a @q0b) ?_
   refine q09 (@q0b) Tryz.results126 ?_
   exact .c _

theorem z3n (full s : List UInt8) (h1 : full.length ≤ 100000000) (h2 : s.length ≤ 100000000) : Told Tryz.prog 170 [.c (.v (.string (str s))), .pp [.v (.string (str full))]] (q6s (q1q (q2f full) s)) := by
 have hS := z03 full (by omega)
 have hJ := j5f (q2f full) s (by unfold q2f; simp; omega) h2
 unfold q6s at hJ ⊢
 generalize q2f full = sp at *
 generalize q1q sp s = o at *
 refine VC.toldP ent_170 Tryz.func170 rfl Tryz.ntmps170 fun hb => ?_
 clear hb
 refine q0c ?_
 refine q0h (hS) ?_
 refine q0c ?_
 refine q0h (hJ) ?_
 refine q0c ?_
 refine retX Tryz.results170 ?_
 exact ⟨.c _, .c _⟩
theorem z3g (s : List UInt8) (h2 : s.length ≤ 100000000) : Told Tryz.prog 225 [.c (.v (.string (str s)))] (.tup [.c (.v (.string (str s))), .c (.v (.bool (q1b s)))]) := by
 have hS := q7l s (by omega)
 refine VC.toldP ent_225 Tryz.func225 rfl Tryz.ntmps225 fun hb => ?_
 clear hb
 refine q0c ?_
 refine q0h (hS) ?_
 refine q0c ?_
 refine retX Tryz.results225 ?_
 exact ⟨.c _, .c _⟩

def xF (F : List UInt8) : Blkd := ⟨false, 9, 1, [[.c (.v (.string (str F)))]]⟩
theorem z2c (es : List EN) (n : Nat) (hn : n = es.length) (e : Int) (j : JT) (hl : (gt j q1f).its.length ≤ 1000000) {g : FuncId} (F : List UInt8) (v : List UInt8 → List UInt8) (ok : List UInt8 → Bool)
  (hk : ∀ x ∈ (gt j q1f).its, Told Tryz.prog g [.c (.v (.string (str x.txt))), .pp [.v (.string (str F))]] (.tup [.c (.v (.string (str (v x.txt)))), .c (.v (.bool (ok x.txt)))])) :
  ToldM Tryz.prog 169 [.ref 1000000 1 0 0, j.av, .fn (.func g) [] [.ref 1000002 1 0 0]] [xW n e, xN es, xF F] [some (xW n (q3t e j ok)), some (xN es), some (xF F)] (.c (.sl 1 ((q40 j v).map sPV))) := by
 have hG := q4j j q1f
 have hT := j4j es n hn e (gt j q1f) hl
 unfold q40 q3t
 rw [show (jget j q1f).getD zJ = gt j q1f from rfl] at hG
 rw [show (gt j q1f).its.map JT.txt = (gt j q1f).its.map JT.txt from rfl] at hT
 generalize (jget j q1f).isSome = b at hG ⊢
 generalize q4e e (gt j q1f) = e1 at hT ⊢
 have hk' : ∀ s ∈ (gt j q1f).its.map JT.txt, Told Tryz.prog g [.c (.v (.string (str s))), .pp [.v (.string (str F))]] (.tup [.c (.v (.string (str (v s)))), .c (.v (.bool (ok s)))]) := fun s hs => by
  obtain ⟨x, hx, rfl⟩ := List.mem_map.1 hs
  exact hk x hx
 clear hk
 have hl' : ((gt j q1f).its.map JT.txt).length ≤ 1000000 := by rw [List.length_map]; exact hl
 clear hl
 generalize (gt j q1f).its.map JT.txt = l at *
 generalize gt j q1f = x at *
 rw [JT.av_eq x, q03 x] at hG hT
 rw [JT.av_eq, q03] at hG ⊢
 generalize j.kd = j1 at *
 generalize j.num = j2 at *
 generalize j.txt = j3 at *
 generalize j.its = j4 at *
 generalize j.keys = j5 at *
 generalize x.kd = x1 at *
 generalize x.num = x2 at *
 generalize x.txt = x3 at *
 generalize x.its = x4 at *
 generalize x.keys = x5 at *
 rw [q1f, q33 [97, 108, 105, 97, 115, 101, 115]] at hG
 unfold xW xN at hT ⊢
 unfold xF
 cases b with
 | false =>
   simp only [Bool.false_eq_true, if_false]
   refine VC.toldXF (And.intro @q0a (And.intro @q0i hn)) j29 [] Tryz.func169 rfl Tryz.ntmps169 fun hb hbL => ?_
   clear hb hbL
   refine q0c ?_
   refine q0h (hG) ?_
   refine q1m ?_
   refine q09 (@q0b) Tryz.results169 ?_
   exact .nil 1
 | true =>
   simp only [if_true]
   refine VC.toldXF (And.intro @q0a (And.intro @q0i hn)) j29 [] Tryz.func169 rfl Tryz.ntmps169 fun hb hbL => ?_
   clear hb hbL
   refine q0c ?_
   refine q0h (hG) ?_
   refine q1m ?_
   refine q0n (And.intro @q0a (And.intro @q0b hn)) [1000000, 1000001] (hT) ?_
   refine q0c ?_
   refine VC.nil 9 9 1 (by rfl) (by trivial) (by rfl) ?_
   refine VC.loop (ι := {i : Nat // i ≤ l.length}) (fun q => [(0, .ref 1000000 1 0 0), (2, .fn (.func g) [] [.ref 1000002 1 0 0]), (9, .row 144 q.1), (23, .c (.sl 1 (l.map sPV))), (24, .c (.v (.int .i64 (l.length : Int)))), (25, .c (.v (.int .i64 (q.1 : Int))))])
    (fun q => [(1000000, ⟨false, 60, 3, [[.row 1000001 n, .c (.v (.int .i64 0)), .c (.v (.int .i64 (fl e1 ((l.take q.1).any fun s => !ok s) 31)))]]⟩), (1000001, ⟨true, 40, 10, rA EN.cells es⟩), (1000002, ⟨false, 9, 1, [[.c (.v (.string (str F)))]]⟩), (144, ⟨true, 9, 1, rA sPV ((l.take q.1).map v)⟩)]) 800 (fun q => l.length - q.1) ⟨0, Nat.zero_le _⟩ ?_ ?_
   · have h0 : fl e1 (([] : List (List UInt8)).any fun s => !ok s) 31 = e1 := by
      unfold fl
      split
      · rfl
      · simp; omega
     simp only [q60, q0a, q0i, q0b, hn, List.take_zero, h0, Weak, eq_self, q0x, q0r, sc_c, q0t, q0u, q0v, q0q, q0s, ScL, q0w, List.forall_mem_map, go_sem, Int.reduceBEq, Int.reduceLE, Int.reduceLT, Int.reduceNeg, Nat.reduceAdd, Nat.reduceEqDiff, Nat.reduceLT, Nat.reduceLeDiff, Nat.reduceMul, Nat.reduceSub, reduceCtorEq, ↓reduceIte]
     exact Nat.le_refl _
   rintro ⟨i, hi⟩
   simp only []
   have hti : ((l.take i).map v).length = i := by simp; omega
   refine q0c ?_
   refine VC.cond (by rfl) (by trivial) (fun hc => ?_) (fun hc => ?_)
   · have hlt : i < l.length := by simp at hc; omega
     obtain ⟨y, hy⟩ : ∃ y, l[i]? = some y := ⟨l[i], List.getElem?_eq_getElem hlt⟩
     have hyp : (l.map sPV)[i]? = some [.v (.string (str y))] := by rw [List.getElem?_map, hy]; rfl
     have hw : IntKind.i64.wrap ((i : Int) + 1) = (i : Int) + 1 := q1g (by omega) (by omega)
     have hap := al_next (v := v) hy
     have hti2 : ((l.take (i + 1)).map v).length = i + 1 := by simp; omega
     have hany : (l.take (i + 1)).any (fun s => !ok s) = ((l.take i).any (fun s => !ok s) || !ok y) := by
      rw [List.take_add_one, hy]
      simp
     have hE := fl_fl e1 ((l.take i).any fun s => !ok s) (!ok y) 31 (by decide)
     rw [← hany] at hE
     have hF2 := q15 es n hn (fl e1 ((l.take i).any fun s => !ok s) 31) 31 (!ok y)
     unfold xW xN at hF2
     rw [hE] at hF2
     generalize fl e1 ((l.take i).any fun s => !ok s) 31 = ei at *
     have hky := hk' y (List.mem_of_getElem? hy)
     refine q0d (hyp) ?_
     (refine AO.step fun K hK => ?_; simp only [go_sem, Int.reduceBEq, Int.reduceLE, Int.reduceLT, Int.reduceNeg, Nat.reduceAdd, Nat.reduceEqDiff, Nat.reduceLT, Nat.reduceLeDiff, Nat.reduceMul, Nat.reduceSub, reduceCtorEq, ↓reduceIte]; (first | refine q0g ?_ | skip))
     refine .inr (.inl ⟨_, [.c (.v (.string (str y))), .pp [.v (.string (str F))]], [1000002], ⟨by rfl, by rfl, fun k x z h5 h6 => ?_, by rfl, hky⟩, hK _ _ _ ?_⟩)
     · match k with
       | 0 => obtain rfl := Option.some.inj h5; obtain rfl := Option.some.inj h6; exact .same _
       | 1 => obtain rfl := Option.some.inj h5; obtain rfl := Option.some.inj h6; exact View.ref (es := [.v (.string (str F))]) rfl rfl rfl rfl
       | k + 2 => simp at h5
     clear hK K
     refine q0c ?_
     refine q0n (And.intro @q0a (And.intro @q0b hn)) [1000000, 1000001] (hF2) ?_
     refine q0d (And.intro @q0a (And.intro hti (And.intro hap hw))) ?_
     refine .next ⟨i + 1, by omega⟩ ?_ (by simp only []; omega)
     refine q3l (And.intro @q0a (And.intro @q0i (And.intro @q0b (And.intro hti2 hn)))) ?_
     exact ⟨cI (by omega), Nat.le_refl _, Nat.le_refl _⟩
   · have hie : i = l.length := by simp at hc; omega
     subst hie
     rw [List.take_length] at *
     refine q0d (And.intro @q0a hti) ?_
     refine q09 (@q0b) Tryz.results169 ?_
     exact q6o (f := sPV) (T := 9) rfl (by rw [List.length_map]) rfl fun x _ => rfl
section

section
variable {P : Program} {ops : Array Oper} {o : Oper} {ℓ : Nat} {t : Nat → AV} {h : Nat → Option Blkd}
theorem AO.stepJw {l : List Oper} {n : Nat} {fs : Foot} {R : (Nat → AV) → (Nat → Option Blkd) → Foot → Prop} {v : AV} {rd : List Nat} {wr : List (Nat × Option Blkd)} (hgd : o.guard = none) (hJ : J P o n t h ⟨v, rd, wr⟩) (H : AO P ops l (n + 8) (putd o.dst v t) (wrs wr h) (fs ++ [(rd, wr.map (·.1))]) R) : AO P ops (o :: l) n t h fs R :=
 ⟨_, JG.plain hgd hJ, H.out⟩
end
end
end
end Go.Proofs.YthkofkaocipomaaGreatDoor
