/- Texts that lead to the law DecodeOne, joined. -/
import Derived.Test.YtepneflbhpidbaaGreatDoorPkDecodeOneF
import Derived.Test.YtepneflbhpidbaaGreatDoorPkDecodeOneA
import Derived.Test.YtepneflbhpidbaaGreatDoorPkDecodeOneD
import Derived.Test.YtepneflbhpidbaaGreatDoorPkDecodeOneC
import Derived.Test.YtepneflbhpidbaaGreatDoorPkDecodeOneE
import Derived.Test.YtepneflbhpidbaaGreatDoorRows
import Derived.MakeChecks
import Derived.LaidMore
import Derived.OpenShut
namespace Go.Proofs.YtepneflbhpidbaaGreatDoor
set_option maxRecDepth 100000
set_option maxHeartbeats 6400000
open Go.RowKit
set_option linter.unusedVariables false
set_option linter.unusedSimpArgs false
section
attribute [local go_sem] opx opE ev okx q5h bnd okO AV.get AV.okb cAV q6y q8g q8f j0t j0s q79 q78 st q7s q5r q7u q7v q7t binV binI binS q42 q5o q5i q5p unV q6h q4h q3v q04 q2j Blkd.len setE grown q1r q45 q3w q4o pv q4j q30 q39 AV.cellish AV.pureL AV.pureB q77 q71 AV.ren AV.renL q8i Blkd.ren rho wrM renN q3t rhoE q4s q44 q7f q4y q6v q51 j0h j0i j0l q5l q8o q8w q8x q8z q83 q9a q9b q9f q9l q9n q9p q7g q9q q7h q50 q7i q7j j0b q6t q7k j0c q6e j0d q6u j0e q6f q7l j0f q7m j0g j0j j0k j0m j0n j0o j0p j0q q8p q8q q8r q8s q8t q8u q8v q8y q80 q81 q82 q84 q85 q86 q87 q88 q89 q9c q9d q9e q9g q9h q9i q9j q9k q9m q9o q9r q9s q9t q9u q9v q9w q9x q9y q9z q90 q91 q92 q93 q94 q95 q96 q97 q98 q99 j0a Option.map_some Option.map_none Option.getD_some Option.getD_none Option.bind_some Option.bind_none List.getElem?_cons_zero List.getElem?_cons_succ List.getElem?_nil List.getElem?_toArray List.length_cons List.length_nil List.length_map List.forall_mem_map List.map_cons List.map_nil List.drop_zero List.drop_succ_cons List.drop_nil List.take_zero List.take_succ_cons List.take_nil List.mem_cons List.not_mem_nil or_false forall_eq_or_imp forall_eq List.set_cons_zero List.set_cons_succ List.cons_append List.nil_append List.append_nil List.foldl_cons List.foldl_nil List.replicate_succ List.replicate_zero List.all_cons List.all_nil if_true if_false Bool.false_eq_true ne_eq not_false_eq_true not_true_eq_false true_and and_true and_self true_implies imp_self implies_true forall_const beq_self_eq_true Bool.and_true Bool.true_and Bool.and_false Bool.false_and Bool.or_true Bool.true_or Bool.or_false Bool.false_or Bool.not_true Bool.not_false Bool.not_eq_eq_eq_not q6a Value.oneCell' Int.toNat_natCast beq_true beq_false Bool.not_eq_true false_implies false_or true_or or_true Nat.zero_add Nat.add_zero decide_true decide_false Int.cast_ofNat_Int Int.toNat_zero Int.toNat_one eq_self

theorem take_step {ns : List NT} {l : List Int} {i : Nat} (h : i < ns.length) : (q1v ns l).take (i + 1) = (q1v ns l).take i ++ [q1y (wAt l) (q1t ns i) 1] := by
 rw [List.take_add_one, j7h h]
 rfl
theorem z30 {ns : List NT} {i : Nat} {n : NT} (h : ns[i]? = some n) : q1t ns i = if n.kind = 9 then n.fields else [] := by rw [q1t, h]
noncomputable def difT (a b : List Int) (i : Nat) : Bool := @decide (a.take i ≠ b.take i) (Classical.propDecidable _)
theorem difT_zero (a b : List Int) : difT a b 0 = false := by simp [difT]
theorem difT_next {a b : List Int} {i : Nat} {x y : Int} (hx : a[i]? = some x) (hy : b[i]? = some y) : difT a b (i + 1) = (difT a b i || (x != y)) := by
 have hla := (List.getElem?_eq_some_iff.1 hx).1
 have hlb := (List.getElem?_eq_some_iff.1 hy).1
 rw [Bool.eq_iff_iff]
 simp only [difT, decide_eq_true_eq, Bool.or_eq_true, bne_iff_ne, ne_eq]
 rw [List.take_add_one, List.take_add_one, hx, hy, Option.toList_some, Option.toList_some]
 constructor
 · intro h
   by_cases h1 : a.take i = b.take i
   · by_cases h2 : x = y
     · exact absurd (by rw [h1, h2]) h
     · exact .inr h2
   · exact .inl h1
 · rintro h e
   have := List.append_inj e (by simp; omega)
   rcases h with h | h
   · exact h this.1
   · exact h (List.cons.inj this.2).1
theorem difT_end {a b : List Int} {i : Nat} (ha : a.length = i) (hb : b.length = i) : difT a b i = false ↔ a = b := by
 simp only [difT, decide_eq_false_iff_not, ne_eq, Classical.not_not]
 rw [List.take_of_length_le (by omega), List.take_of_length_le (by omega)]
theorem z5q (s : ST) (hl : s.nodes.length ≤ 1000000) (hs : ∀ n ∈ s.nodes, n.sm 1000000) (hr : ∀ p, ∀ x ∈ q1t s.nodes p, 0 ≤ x.type ∧ x.type < (s.nodes.length : Int)) (l : List Int) (hG : ∀ l', WOk s.nodes l' → q1v s.nodes l' = l' → l' = l) :
  Told Tryz.prog 89 [s.av] (.c (.sl 1 (l.map iPV))) := by
 rw [ST.av_eq, q0i]
 refine VC.toldP ent_89 Tryz.func89 rfl Tryz.ntmps89 fun hb => ?_
 clear hb
 refine q0b ?_
 refine VC.nil 3 3 1 (by rfl) (by trivial) (by rfl) ?_
 refine VC.loop (ι := {i : Nat // i ≤ s.nodes.length}) (fun q => [(1, .ref 0 1 0 0), (3, .row 32 q.1), (4, .c (.v (.int .i64 (q.1 : Int))))]) (fun q => [(0, ⟨false, 24, 2, [s.cells.map .c]⟩), (32, ⟨true, 3, 1, rA iPV (List.replicate q.1 1)⟩)]) 800 (fun q => s.nodes.length - q.1)
  ⟨0, Nat.zero_le _⟩ ?_ ?_
 · simp only [q0x, q1l, q7a, q0i, Weak, eq_self, q0v, q0p, sc_c, q0r, q0s, q0t, q0o, q0q, ScL, q0u, List.forall_mem_map, go_sem, Int.reduceBEq, Int.reduceLE, Int.reduceLT, Int.reduceNeg, Nat.reduceAdd, Nat.reduceEqDiff, Nat.reduceLT, Nat.reduceLeDiff, Nat.reduceMul, Nat.reduceSub, reduceCtorEq, ↓reduceIte]
   try simp [q7a]
 rintro ⟨i, hi⟩
 simp only []
 refine q0c (@q0i) ?_
 refine VC.cond (by rfl) (by trivial) (fun hc => ?_) (fun hc => ?_)
 · have hlt : i < s.nodes.length := by simp at hc; omega
   have hw : IntKind.i64.wrap ((i : Int) + 1) = (i : Int) + 1 := q0f (by omega) (by omega)
   have hln : (rA iPV (List.replicate i 1)).length = i := by rw [q0x]; simp
   have hap : rA iPV (List.replicate i 1) ++ [[.c (.v (.int .i64 1))]] = rA iPV (List.replicate (i + 1) 1) := by
    rw [List.replicate_succ']
    exact q7b iPV _ 1
   have hl2 : (rA iPV (List.replicate (i + 1) 1)).length = i + 1 := by rw [q0x]; simp
   refine q0c (And.intro hln (And.intro hap hw)) ?_
   refine .next ⟨i + 1, by omega⟩ ?_ (by simp only []; omega)
   refine q1j (And.intro hl2 (And.intro @q1l @q0i)) ?_
   exact ⟨cI (by omega), by rw [q0x]; simp⟩
 have hie : i = s.nodes.length := by simp at hc; omega
 subst hie
 have hln : (rA iPV (List.replicate s.nodes.length 1)).length = s.nodes.length := by rw [q0x]; simp
 refine q0b ?_
 refine VC.frz [32] [(1, .ref 0 1 0 0), (3, .c (.sl 1 ((List.replicate s.nodes.length 1).map iPV))), (5, .c (.v (.bool true)))] [(0, ⟨false, 24, 2, [s.cells.map .c]⟩)] 1600 ?_ ?_
 · refine q5c (And.intro @q1l (And.intro @q0x @q0i)) ?_
   exact ⟨⟨.same _, .row (B := ⟨true, 3, 1, rA iPV (List.replicate s.nodes.length 1)⟩) (es := (List.replicate s.nodes.length 1).map iPV) (by simp) rfl rfl hln (q5j _ _), .same _⟩, .same _⟩
 refine VC.loop (ι := {x : List Int × Bool // WOk s.nodes x.1 ∧ (x.2 = false → q1v s.nodes x.1 = x.1)}) (fun q => [(1, .ref 0 1 0 0), (3, .c (.sl 1 (q.1.1.map iPV))), (5, .c (.v (.bool q.1.2)))]) (fun q => [(0, ⟨false, 24, 2, [s.cells.map .c]⟩)]) 3200 (fun q => q61 q.1.1 * 2 + q.1.2.toNat)
  ⟨(List.replicate s.nodes.length 1, true), wok_one s.nodes, by simp⟩ ?_ ?_
 · exact q2f (@q0i)
 rintro ⟨⟨w, more⟩, hwk, hmore⟩
 simp only [] at hwk hmore ⊢
 refine q0b ?_
 refine VC.cond (by rfl) (by trivial) (fun hm => ?_) (fun hm => ?_)
 rotate_left
 · obtain rfl := hG w hwk (hmore hm)
   refine q0b ?_
   refine retX Tryz.results89 ?_
   exact .c _
 subst hm
 obtain ⟨hwl, hwr, hwm⟩ := hwk
 have hwl2 : (w.map iPV).length = s.nodes.length := by simp [hwl]
 refine q0b ?_
 refine VC.nil 6 3 1 (by rfl) (by trivial) (by rfl) ?_
 refine VC.loop (ι := {i : Nat // i ≤ s.nodes.length}) (fun q => [(1, .ref 0 1 0 0), (3, .c (.sl 1 (w.map iPV))), (5, .c (.v (.bool (difT (q1v s.nodes w) w q.1)))), (6, .row 3232 q.1), (7, .c (.v (.int .i64 (q.1 : Int))))]) (fun q => [(0, ⟨false, 24, 2, [s.cells.map .c]⟩), (3232, ⟨true, 3, 1, rA iPV ((q1v s.nodes w).take q.1)⟩)]) 4800 (fun q => s.nodes.length - q.1)
  ⟨0, Nat.zero_le _⟩ ?_ ?_
 · exact q2f (And.intro @q0x (And.intro @q1l (And.intro @q7a (And.intro @q0i @difT_zero))))
 rintro ⟨i, hi⟩
 simp only []
 refine q0c (@q0i) ?_
 refine VC.cond (by rfl) (by trivial) (fun hc => ?_) (fun hc => ?_)
 · have hlt : i < s.nodes.length := by simp at hc; omega
   obtain ⟨n, hn⟩ : ∃ n, s.nodes[i]? = some n := ⟨s.nodes[i], List.getElem?_eq_getElem hlt⟩
   have hnp : (s.nodes.map NT.cells)[i]? = some n.cells := by rw [List.getElem?_map, hn]; rfl
   have hw : IntKind.i64.wrap ((i : Int) + 1) = (i : Int) + 1 := q0f (by omega) (by omega)
   have hfl := (hs n (List.mem_of_getElem? hn)).2.2.2.2.2.1
   obtain ⟨v, hv⟩ : ∃ v, w[i]? = some v := ⟨w[i]'(by omega), List.getElem?_eq_getElem (by omega)⟩
   have hvp : (w.map iPV)[i]? = some (iPV v) := by rw [List.getElem?_map, hv]; rfl
   have hwa := fun q => j4s hwr q
   have hsl : (q1v s.nodes w).length = s.nodes.length := by simp [q1v]
   have hln2 : (rA iPV ((q1v s.nodes w).take i)).length = i := by rw [q0x]; simp; omega
   have hl2 : (rA iPV ((q1v s.nodes w).take (i + 1))).length = i + 1 := by rw [q0x]; simp; omega
   have hst := take_step (l := w) hlt
   have hat := j7h (l := w) hlt
   have hdn := difT_next hat hv
   obtain ⟨T, hT⟩ : ∃ T, T = q1y (wAt w) (q1t s.nodes i) 1 := ⟨_, rfl⟩
   rw [← hT] at hst hat hdn
   have hap : rA iPV ((q1v s.nodes w).take i) ++ [[.c (.v (.int .i64 T))]] = rA iPV ((q1v s.nodes w).take (i + 1)) := by
    rw [hst]
    exact q7b iPV _ T
   have hfa := z30 hn
   replace hdn := Lib.hid hdn
   have hlw : ∀ (F : List FT) (a : Int), a ≤ 1001 → q1y (wAt w) F a ≤ 1001 := fun F a h => j2d F a h
   have hgw : ∀ (F : List FT) (a : Int), a ≤ 1001 → a ≤ q1y (wAt w) F a := fun F a h => j02 (fun q => (hwa q).1) F a h
   refine q0b ?_
   refine VC.loop (ι := {x : Nat × Int // x.1 ≤ n.fields.length ∧ 1 ≤ x.2 ∧ x.2 ≤ 2001 ∧ q1y (wAt w) ((if n.kind = 9 then n.fields else []).drop x.1) (min x.2 1001) = T}) (fun q => [(1, .ref 0 1 0 0), (3, .c (.sl 1 (w.map iPV))), (5, .c (.v (.bool (difT (q1v s.nodes w) w i)))), (6, .row 3232 i), (7, .c (.v (.int .i64 (i : Int)))), (8, .c (.v (.int .i64 q.1.2))), (9, .c (.v (.int .i64 (q.1.1 : Int))))])
    (fun q => [(0, ⟨false, 24, 2, [s.cells.map .c]⟩), (3232, ⟨true, 3, 1, rA iPV ((q1v s.nodes w).take i)⟩)]) 6400 (fun q => n.fields.length - q.1.1) ⟨(0, 1), Nat.zero_le _, by simp only []; omega, by simp only []; omega, by rw [hT, hfa]; rfl⟩ ?_ ?_
   · refine q1j (And.intro hln2 (And.intro @q1l @q0i)) ?_
     exact Nat.le_refl _
   rintro ⟨⟨k, m⟩, hk, hm1, hm2, hfo⟩
   simp only [] at hk hm1 hm2 hfo ⊢
   refine q0c (And.intro @q0i (And.intro hnp @q0d)) ?_
   refine VC.cond (by rfl) (by trivial) (fun hc2 => ?_) (fun hc2 => ?_)
   · obtain ⟨hkl, h9, hmk⟩ : k < n.fields.length ∧ n.kind = 9 ∧ m ≤ 1000 := by
      simp at hc2
      omega
     obtain ⟨f, hf⟩ : ∃ f, n.fields[k]? = some f := ⟨n.fields[k], List.getElem?_eq_getElem hkl⟩
     have hfp : (n.fields.map FT.cells)[k]? = some f.cells := by rw [List.getElem?_map, hf]; rfl
     have hwk : IntKind.i64.wrap ((k : Int) + 1) = (k : Int) + 1 := q0f (by omega) (by omega)
     obtain ⟨t0, t1⟩ := hr i f (by rw [hfa, if_pos h9]; exact List.mem_of_getElem? hf)
     obtain ⟨q, hq⟩ : ∃ q : Nat, f.type = (q : Int) := ⟨f.type.toNat, by omega⟩
     obtain ⟨u, hu⟩ : ∃ u, w[q]? = some u := ⟨w[q]'(by omega), List.getElem?_eq_getElem (by omega)⟩
     have hup : (w.map iPV)[q]? = some (iPV u) := by rw [List.getElem?_map, hu]; rfl
     have hur := hwr u (List.mem_of_getElem? hu)
     have hwu : IntKind.i64.wrap (m + u) = m + u := q0f (by omega) (by omega)
     rw [if_pos h9, j5b hf, q1y, hq, Int.toNat_natCast, j4r hu] at hfo
     refine q0c (And.intro @q0i (And.intro hnp (And.intro @q0d (And.intro hfp (And.intro @q3h (And.intro hq (And.intro hup (And.intro @q3b (And.intro hwl2 (And.intro hwl (And.intro hwu hwk))))))))))) ?_
     refine .next ⟨(k + 1, m + u), by simp only []; omega, by simp only []; omega, by simp only []; omega, by
      simp only []
      rw [if_pos h9, ← hfo]
      congr 1
      omega⟩ ?_ (by simp only []; omega)
     refine q1j (And.intro hln2 (And.intro @q1l @q0i)) ?_
     exact ⟨cI (by omega), Nat.le_refl _⟩
   · have hend : min m 1001 = T := by
      rw [← hfo]
      by_cases h9 : n.kind = 9
      · rw [if_pos h9]
        by_cases hkl : k < n.fields.length
        · have hmb : 1000 < m := by
           simp [h9] at hc2
           omega
          have a := hlw (n.fields.drop k) (min m 1001) (by omega)
          have b := hgw (n.fields.drop k) (min m 1001) (by omega)
          omega
        · rw [List.drop_of_length_le (by omega), q1y]
      · rw [if_neg h9, List.drop_nil, q1y]
     refine q0b ?_
     refine VC.cond (by rfl) (by trivial) (fun hc3 => ?_) (fun hc3 => ?_)
     · have hmT : T = 1001 := by
        rw [← hend]
        simp at hc3
        omega
       subst hmT
       refine q0c (And.intro @q0i (And.intro hvp (And.intro @q3b (And.intro hwl2 (And.intro hwl (And.intro hln2 (And.intro hap hw))))))) ?_
       refine .next ⟨i + 1, by omega⟩ ?_ (by simp only []; omega)
       refine q1j (And.intro hl2 (And.intro @q1l (And.intro @q0i hdn.out))) ?_
       exact ⟨cI (by omega), Nat.le_refl _⟩
     · have hmT : m = T := by
        rw [← hend]
        simp at hc3
        omega
       subst hmT
       refine q0c (And.intro @q0i (And.intro hvp (And.intro @q3b (And.intro hwl2 (And.intro hwl (And.intro hln2 (And.intro hap hw))))))) ?_
       refine .next ⟨i + 1, by omega⟩ ?_ (by simp only []; omega)
       refine q1j (And.intro hl2 (And.intro @q1l (And.intro @q0i hdn.out))) ?_
       exact ⟨cI (by omega), Nat.le_refl _⟩
 have hie : i = s.nodes.length := by simp at hc; omega
 have hsl : (q1v s.nodes w).length = s.nodes.length := by simp [q1v]
 subst hie
 rw [show (q1v s.nodes w).take s.nodes.length = q1v s.nodes w from List.take_of_length_le (by omega)]
 have hln3 : (rA iPV (q1v s.nodes w)).length = s.nodes.length := by rw [q0x, hsl]
 obtain ⟨d, hd⟩ : ∃ d, d = difT (q1v s.nodes w) w s.nodes.length := ⟨_, rfl⟩
 rw [← hd]
 have hde := difT_end (a := q1v s.nodes w) (b := w) hsl hwl
 rw [← hd] at hde
 have hlack := fun h : q1v s.nodes w ≠ w => z62 ⟨hwl, hwr, hwm⟩ h
 have hok := z2b ⟨hwl, hwr, hwm⟩
 refine VC.frz [3232] [(1, .ref 0 1 0 0), (6, .c (.sl 1 ((q1v s.nodes w).map iPV))), (5, .c (.v (.bool d)))] [(0, ⟨false, 24, 2, [s.cells.map .c]⟩)] 12000 ?_ ?_
 · refine q5c (And.intro @q1l (And.intro @q0x @q0i)) ?_
   exact ⟨⟨.same _, .row (B := ⟨true, 3, 1, rA iPV (q1v s.nodes w)⟩) (es := (q1v s.nodes w).map iPV) (by simp) rfl rfl hln3 (q5j _ _), .same _⟩, .same _⟩
 refine q0b ?_
 refine .next ⟨(q1v s.nodes w, d), hok, fun h => ?_⟩ ?_ ?_
 · have e := hde.1 h
   simp only []
   rw [e]
   exact e
 · exact q2f (@q0i)
 · simp only []
   cases d with
   | false =>
     have e := hde.1 rfl
     rw [e]
     simp
   | true =>
     have := hlack fun e => by
      have := hde.2 e
      simp at this
     simp
     omega

theorem gList {ns : List NT} {G : Nat → Int} {l' : List Int} (hG : IsG ns G) (hr : ∀ p, ∀ x ∈ q1t ns p, x.type.toNat < ns.length) (h : WOk ns l') (he : q1v ns l' = l') : l' = (List.range ns.length).map G := by
 apply List.ext_getElem?
 intro i
 by_cases hi : i < ns.length
 · rw [wok_G hG hr h he i hi, List.getElem?_map, List.getElem?_range hi]
   rfl
 · rw [List.getElem?_eq_none (by have := h.1; omega), List.getElem?_eq_none (by simp; omega)]
theorem z4m (s : ST) (hsm : s.sm 1000000) (hdp : ∀ n ∈ s.nodes, ∀ f ∈ n.fields, q2b f.dflt ≤ 1000) : Told Tryz.prog 52 [s.av] (.c (.v (.bool (q1s s)))) := by
 obtain ⟨V, hV⟩ : ∃ V, V = q1s s := ⟨_, rfl⟩
 rw [← hV]
 obtain ⟨hl, hs⟩ := hsm
 have hO := z5g s hl hs
 simp only [ST.av_eq, q0i, List.map_cons, List.map_nil] at hO
 rw [ST.av_eq, q0i]
 cases ho : q38 s with
 | false =>
   rw [ho] at hO
   have hf : V = false := by
    cases h : V with
    | false => rfl
    | true =>
      rw [hV] at h
      rw [j1t h] at ho
      exact absurd ho (by simp)
   subst hf
   refine VC.toldP ent_52 Tryz.func52 rfl Tryz.ntmps52 fun hb => ?_
   clear hb
   refine q0b ?_
   refine q0j (hO) ?_
   refine q0m ?_
   refine retX Tryz.results52 ?_
   exact .c _
 | true =>
 rw [ho] at hO
 have hki := q8d ho
 obtain ⟨G, hG⟩ := exG s.nodes (j6f ho)
 have hE := rightM_eq hG (j6f ho)
 have hWt := z5q s hl hs (fun p x hx => by
  unfold q1t at hx
  split at hx
  · rename_i n hn
    split at hx
    · rename_i h9
      exact j92 ho n (List.mem_of_getElem? hn) h9 x hx
    · simp at hx
  · simp at hx) _ fun l' h he => gList hG (j6f ho) h he
 simp only [ST.av_eq, q0i, List.map_cons, List.map_nil] at hWt
 have hGl : (((List.range s.nodes.length).map G).map iPV).length = s.nodes.length := by simp
 have hGx : ∀ i, i < s.nodes.length → (((List.range s.nodes.length).map G).map iPV)[i]? = some (iPV (G i)) := fun i hi => by rw [List.getElem?_map, List.getElem?_map, List.getElem?_range hi]; rfl
 generalize ((List.range s.nodes.length).map G).map iPV = W at hWt hGl hGx
 have hnm : ∀ i, (q1u (s.nodes.take i)).length ≤ 1000000 := fun i => by
  have := j9p (s.nodes.take i)
  rw [List.length_take] at this
  omega
 refine VC.toldP ent_52 Tryz.func52 rfl Tryz.ntmps52 fun hb => ?_
 clear hb
 refine q0b ?_
 refine q0j (hO) ?_
 refine q0m ?_
 refine q0j (hWt) ?_
 refine q0b ?_
 refine VC.nil 4 9 1 (by rfl) (by trivial) (by rfl) ?_
 refine VC.loop (ι := {i : Nat // i ≤ s.nodes.length ∧ ∀ (j : Nat) (n : NT), j < i → s.nodes[j]? = some n → q2h s.nodes n = true ∧ G j ≤ 1000})
  (fun q => [(1, .ref 0 1 0 0), (3, .c (.sl 1 W)), (4, .row 80 (q1u (s.nodes.take q.1)).length), (5, .c (.v (.int .i64 (q.1 : Int))))])
  (fun q => [(0, ⟨false, 24, 2, [s.cells.map .c]⟩), (80, ⟨true, 9, 1, rA sPV (q1u (s.nodes.take q.1))⟩)]) 800 (fun q => s.nodes.length - q.1)
  ⟨0, Nat.zero_le _, fun j n h => by omega⟩ ?_ ?_
 · refine q1j (And.intro @q0x (And.intro @q1l (And.intro @q7a @q0i))) ?_
   simp [q1u, q7a]
 rintro ⟨i, hi, ht⟩
 simp only []
 refine q0c (@q0i) ?_
 refine VC.cond (by rfl) (by trivial) (fun hc => ?_) (fun hc => ?_)
 · have hlt : i < s.nodes.length := by simp at hc; omega
   obtain ⟨n, hn⟩ : ∃ n, s.nodes[i]? = some n := ⟨s.nodes[i], List.getElem?_eq_getElem hlt⟩
   have hnp : (s.nodes.map NT.cells)[i]? = some n.cells := by rw [List.getElem?_map, hn]; rfl
   have hw : IntKind.i64.wrap ((i : Int) + 1) = (i : Int) + 1 := q0f (by omega) (by omega)
   have hmem := List.mem_of_getElem? hn
   have hNd := z5f s n (hs n hmem) (fun h13 k hk => hki n hmem k (by rw [q1e, if_neg (by omega), if_neg (by omega), if_pos h13]; exact hk)) (hdp n hmem)
   have hNm := j36 n.kind
   simp only [ST.av_eq, q0i, NT.av_eq, q0d, List.map_cons, List.map_nil] at hNd
   have hWx := hGx i hlt
   have hnl : (rA sPV (q1u (s.nodes.take i))).length = (q1u (s.nodes.take i)).length := q0x _ _
   have hnt := j9o hn
   have hni := hnm i
   cases hnn : q2h s.nodes n with
   | false =>
     have hf : V = false := by
      cases h : V with
      | false => rfl
      | true =>
        rw [hV, hE] at h
        rw [h.2.1 n hmem] at hnn
        exact absurd hnn (by simp)
     subst hf
     rw [hnn] at hNd
     refine q0c (And.intro @q0i (And.intro hnp @q0d)) ?_
     refine q0j (hNd) ?_
     refine q0m ?_
     refine retX Tryz.results52 ?_
     exact .c _
   | true =>
     rw [hnn] at hNd
     refine q0c (And.intro @q0i (And.intro hnp @q0d)) ?_
     refine q0j (hNd) ?_
     refine q0c (And.intro hWx (And.intro @q3b hGl)) ?_
     refine VC.cond (by rfl) (by trivial) (fun hc2 => ?_) (fun hc2 => ?_)
     · have hf : V = false := by
        cases h : V with
        | false => rfl
        | true =>
          rw [hV, hE] at h
          have := h.2.2.1 i hlt
          simp at hc2
          omega
       subst hf
       refine q0b ?_
       refine retX Tryz.results52 ?_
       exact .c _
     have hg1 : G i ≤ 1000 := by simp at hc2; omega
     refine q0c (And.intro @q0i (And.intro hnp @q0d)) ?_
     refine q0j (hNm) ?_
     refine q0b ?_
     have hnext : ∀ (j : Nat) (m : NT), j < i + 1 → s.nodes[j]? = some m → q2h s.nodes m = true ∧ G j ≤ 1000 := fun j m hj hm => by
      by_cases hji : j < i
      · exact ht j m hji hm
      · obtain rfl : j = i := by omega
        rw [hn] at hm
        obtain rfl := Option.some.inj hm
        exact ⟨hnn, hg1⟩
     refine VC.cond (by rfl) (by trivial) (fun hc3 => ?_) (fun hc3 => ?_)
     · rw [if_pos hc3] at hnt
       have hr : rA sPV (q1u (s.nodes.take i)) ++ [[.c (.v (.string (str n.name)))]] = rA sPV (q1u (s.nodes.take (i + 1))) := by
        rw [hnt]
        exact q7b sPV _ n.name
       have hl2 : (q1u (s.nodes.take (i + 1))).length = (q1u (s.nodes.take i)).length + 1 := by rw [hnt]; simp
       refine q0c (And.intro @q0i (And.intro hnp (And.intro @q0d (And.intro hnl (And.intro hr hw))))) ?_
       refine .next ⟨i + 1, by omega, hnext⟩ ?_ (by simp only []; omega)
       refine q1j (And.intro @q0x (And.intro @q1l (And.intro @q0i hl2))) ?_
       exact ⟨cI (by omega), Nat.le_refl _⟩
     · rw [if_neg (by rw [hc3]; simp), List.append_nil] at hnt
       refine q0c (hw) ?_
       refine .next ⟨i + 1, by omega, hnext⟩ ?_ (by simp only []; omega)
       refine q1j (And.intro @q0x (And.intro @q1l (And.intro @q0i hnt))) ?_
       exact ⟨cI (by omega), Nat.le_refl _⟩
 · have hie : i = s.nodes.length := by simp at hc; omega
   have htk : s.nodes.take i = s.nodes := by rw [hie, List.take_length]
   rw [htk]
   have hnm0 := hnm i
   rw [htk] at hnm0
   have hf : V = decide (q1u s.nodes).Nodup := by
    rw [hV, Bool.eq_iff_iff, hE, decide_eq_true_eq]
    constructor
    · exact fun h => h.2.2.2
    · refine fun h => ⟨ho, fun m hm => ?_, fun j hj => ?_, h⟩
      · obtain ⟨j, hj⟩ := List.getElem?_of_mem hm
        exact (ht j m (by have := (List.getElem?_eq_some_iff.1 hj).1; omega) hj).1
      · exact (ht j _ (by omega) (List.getElem?_eq_getElem hj)).2
   have hO2 := j6j (q1u s.nodes) (by omega)
   rw [← hf] at hO2
   have hrl : (rA sPV (q1u s.nodes)).length = (q1u s.nodes).length := q0x _ _
   refine q0c (hrl) ?_
   (refine AO.step fun K hK => ?_; simp only [go_sem, Int.reduceBEq, Int.reduceLE, Int.reduceLT, Int.reduceNeg, Nat.reduceAdd, Nat.reduceEqDiff, Nat.reduceLT, Nat.reduceLeDiff, Nat.reduceMul, Nat.reduceSub, reduceCtorEq, ↓reduceIte, hrl]; (first | refine q1k ?_ | skip))
   refine .inr (.inl ⟨.c (.v (.bool V)), [.c (.sl 1 ((q1u s.nodes).map sPV))], [80], ⟨by simp [AV.pureL, AV.pureB], rfl, fun k x z h5 h6 => ?_, rfl, hO2⟩, hK _ _ _ ?_⟩)
   · match k with
     | 0 =>
       obtain rfl := Option.some.inj h5
       obtain rfl := Option.some.inj h6
       exact View.row (B := ⟨true, 9, 1, rA sPV (q1u s.nodes)⟩) (es := (q1u s.nodes).map sPV) rfl rfl hrl (q5j _ _)
     | k + 1 => simp at h5
   clear hK K
   refine q0b ?_
   refine retX Tryz.results52 ?_
   exact .c _

theorem z5c (s : ST) (B : List UInt8) (a : Nat) (nd : NT) (hnd : s.nodes[a]? = some nd) (hk : nd.kind = 9) (dep : Nat) (hd : dep < 20) (lf : Int → Int → Nat → Int → Int × Nat × Int) (hfl : nd.fields.length ≤ 1000000) (hlf : ∀ t ∈ nd.fields, LfT s B t.type (dep + 1) (lf t.type))
  (L : Int) (h0 : 1 ≤ L) (h1 : L ≤ 200000) (p : Nat) (hp : p ≤ B.length) : LfE s B (a : Int) dep L p 0 := by
 have hnp : (s.nodes.map NT.cells)[a]? = some nd.cells := by rw [List.getElem?_map, hnd]; rfl
 have ha : a < s.nodes.length := (List.getElem?_eq_some_iff.1 hnd).1
 have hw : IntKind.i64.wrap (L - 1) = L - 1 := q0f (by omega) (by omega)
 have g8 : decide (nd.kind ≤ 8) = false := by simp; omega
 have g10 : (nd.kind == 10) = false := by rw [hk]; rfl
 have g14 : (nd.kind == 14) = false := by rw [hk]; rfl
 have g9 : (nd.kind == 9) = true := by rw [hk]; rfl
 have gd : ((dep : Int) == 20) = false := by simp; omega
 have gl : decide (L - 1 < 0) = false := by simp; omega
 have hwd : IntKind.i64.wrap ((dep : Int) + 1) = ((dep + 1 : Nat) : Int) := by rw [q0f (by omega) (by omega)]; omega
 obtain ⟨F, hF⟩ : ∃ F, F = runF lf nd.fields (L - 1) p 0 := ⟨_, rfl⟩
 obtain ⟨z1, z2, z3, z4⟩ := runF_ok (B := B) (lf := lf) nd.fields (fun t ht L p e q1 q2 q3 => by
  obtain ⟨b1, b2, b3, _⟩ := hlf t ht L p e q1 q2 q3
  exact ⟨b1.up, b1.le, b2, b3⟩) (L - 1) p 0 (by omega) (by omega) hp
 rw [← hF] at z1 z2 z3 z4
 refine ⟨F.1, F.2.1, F.2.2, ⟨z4, z3, fun h => absurd rfl h⟩, z1, by omega, ?_⟩
 unfold LfT at hlf
 rw [ST.av_eq, q0i] at *
 unfold rB at *
 refine VC.toldX q6k [] Tryz.func105 rfl Tryz.ntmps105 fun hb hbL => ?_
 clear hb hbL
 refine q0a (And.intro hnp (And.intro @q0d (And.intro @q1m (And.intro hw (And.intro g8 (And.intro g10 (And.intro g14 (And.intro g9 (And.intro gd gl))))))))) ?_
 refine VC.loop (ι := {q : Nat × Int × Nat × Int // q.1 ≤ nd.fields.length ∧ -1 ≤ q.2.1 ∧ q.2.1 ≤ 200000 ∧ q.2.2.1 ≤ B.length ∧ F = runF lf (nd.fields.drop q.1) q.2.1 q.2.2.1 q.2.2.2})
  (fun q => [(2, .c (.v (.int .i64 (dep : Int)))), (3, .c (.v (.int .i64 q.1.2.1))), (4, .ref 1000000 1 0 0), (5, .ref 0 1 0 0), (11, .ref 56 1 0 0), (12, .c (.v (.int .i64 (q.1.1 : Int))))])
  (fun q => [(0, ⟨false, 24, 2, [[.c (.sl 10 (s.nodes.map NT.cells)), .c (.v (.int .i64 s.root))]]⟩), (56, ⟨false, 33, 10, [nd.cells.map .c]⟩), (1000000, ⟨false, 149, 3, [[.c (.sl 1 (q0e B)), .c (.v (.int .i64 (q.1.2.2.1 : Int))), .c (.v (.int .i64 q.1.2.2.2))]]⟩)]) 4000 (fun q => nd.fields.length - q.1.1)
  ⟨(0, L - 1, p, 0), Nat.zero_le _, by simp only []; omega, by simp only []; omega, hp, hF⟩ ?_ ?_
 · exact q2f (@q0d)
 rintro ⟨⟨i, M, q, e⟩, i1, i2, i3, i4, i5⟩
 simp only [] at i1 i2 i3 i4 i5 ⊢
 by_cases hlt : i < nd.fields.length
 rotate_left
 · have f1 : decide ((i : Int) < (nd.fields.length : Int)) = false := by simp; omega
   have hie : i = nd.fields.length := by omega
   have g := i5
   rw [hie, List.drop_length, runF] at g
   refine q0a (And.intro @q0d f1) ?_
   refine q16 (g) Tryz.results105 ?_
   exact .c _
 have f1 : decide ((i : Int) < (nd.fields.length : Int)) = true := by simp; omega
 obtain ⟨fd, hx⟩ : ∃ fd, nd.fields[i]? = some fd := ⟨nd.fields[i], List.getElem?_eq_getElem hlt⟩
 have hxq : (nd.fields.map FT.cells)[i]? = some fd.cells := by rw [List.getElem?_map, hx]; rfl
 have hdr : nd.fields.drop i = fd :: nd.fields.drop (i + 1) := by
  rw [List.drop_eq_getElem_cons hlt]
  congr 1
  exact Option.some.inj ((List.getElem?_eq_getElem hlt).symm.trans hx)
 have hwi : IntKind.i64.wrap ((i : Int) + 1) = ((i + 1 : Nat) : Int) := by rw [q0f (by omega) (by omega)]; omega
 have g := i5
 rw [hdr, runF] at g
 by_cases hM : 0 ≤ M
 · rw [if_pos hM] at g
   have f2 : decide (M ≥ 0) = true := by simpa using hM
   obtain ⟨b1, b2, b3, hT⟩ := hlf fd (List.mem_of_getElem? hx) M q e hM i3 i4
   have b4 := b1.le
   clear b1
   generalize lf fd.type M q e = R at g b2 b3 b4 hT
   refine q0a (And.intro @q0d (And.intro f1 (And.intro f2 (And.intro hxq (And.intro hwd @q3h))))) ?_
   refine q01 (@q0d) [1000000] (hT) ?_
   refine q0a (And.intro @q0d hwi) ?_
   refine .next ⟨(i + 1, R.1, R.2.1, R.2.2), hlt, b2, by simp only []; omega, b4, g⟩ ?_ (by simp only []; omega)
   exact q2f (@q0d)
 · rw [if_neg hM] at g
   have f2 : decide (M ≥ 0) = false := by simp; omega
   refine q0a (And.intro @q0d (And.intro f1 f2)) ?_
   refine q16 (g) Tryz.results105 ?_
   exact .c _
theorem z5b (s : ST) (B : List UInt8) (hB : B.length ≤ 1000000) (a : Nat) (nd : NT) (hnd : s.nodes[a]? = some nd) (hk : nd.kind = 13) (dep : Nat) (hd : dep < 20) (lf : Int → Int → Nat → Int → Int × Nat × Int) (hbl : 0 < nd.branches.length) (hlf : ∀ b ∈ nd.branches, LfT s B b (dep + 1) (lf b))
  (L : Int) (h0 : 1 ≤ L) (h1 : L ≤ 200000) (p : Nat) (hp : p ≤ B.length) : LfE s B (a : Int) dep L p 0 := by
 have hnp : (s.nodes.map NT.cells)[a]? = some nd.cells := by rw [List.getElem?_map, hnd]; rfl
 have ha : a < s.nodes.length := (List.getElem?_eq_some_iff.1 hnd).1
 have hw : IntKind.i64.wrap (L - 1) = L - 1 := q0f (by omega) (by omega)
 have g8 : decide (nd.kind ≤ 8) = false := by simp; omega
 have g10 : (nd.kind == 10) = false := by rw [hk]; rfl
 have g14 : (nd.kind == 14) = false := by rw [hk]; rfl
 have g9 : (nd.kind == 9) = false := by rw [hk]; rfl
 have g13 : (nd.kind == 13) = true := by rw [hk]; rfl
 have gd : ((dep : Int) == 20) = false := by simp; omega
 have gl : decide (L - 1 < 0) = false := by simp; omega
 have hwd : IntKind.i64.wrap ((dep : Int) + 1) = ((dep + 1 : Nat) : Int) := by rw [q0f (by omega) (by omega)]; omega
 obtain ⟨n, q, e, a1, a2, hP⟩ := z5i B hB p hp 0 nd.branches.length
 have hn : n < nd.branches.length := by omega
 obtain ⟨b, hb⟩ : ∃ b, nd.branches[n]? = some b := ⟨_, List.getElem?_eq_getElem hn⟩
 have hbp : (nd.branches.map iPV)[n]? = some [.v (.int .i64 b)] := by rw [List.getElem?_map, hb]; rfl
 obtain ⟨b1, b2, b3, hT⟩ := hlf b (List.mem_of_getElem? hb) (L - 1) q e (by omega) (by omega) a1.le
 refine ⟨(lf b (L - 1) q e).1, (lf b (L - 1) q e).2.1, (lf b (L - 1) q e).2.2, ⟨b1.le, Nat.le_trans a1.up b1.up, fun h => absurd rfl h⟩, b2, by omega, ?_⟩
 generalize lf b (L - 1) q e = R at hT
 clear b1 b2 b3 hlf
 rw [ST.av_eq, q0i] at *
 unfold rB at *
 have hbl2 : (nd.branches.map iPV).length = nd.branches.length := List.length_map _
 clear hb
 refine VC.toldX q6k [] Tryz.func105 rfl Tryz.ntmps105 fun hb hbL => ?_
 clear hb hbL
 refine q0a (And.intro hnp (And.intro @q0d (And.intro @q1m (And.intro hw (And.intro g8 (And.intro g10 (And.intro g14 (And.intro g9 (And.intro g13 (And.intro gd gl)))))))))) ?_
 refine q01 (@q0d) [1000000] (hP) ?_
 refine q0a (And.intro @q0d (And.intro hbp hwd)) ?_
 refine q01 (@q0d) [1000000] (hT) ?_
 refine q0m ?_
 refine retX Tryz.results105 ?_
 exact .c _
def q8n (mp : Bool) (txt : Nat → Nat × Int) (lf : Int → Nat → Int → Int × Nat × Int) (L : Int) (p : Nat) : Int × Nat × Int := if mp = true then lf L (txt p).1 (txt p).2 else lf L p 0
theorem z5a (s : ST) (B : List UInt8) (hB : B.length ≤ 1000000) (a : Nat) (nd : NT) (hnd : s.nodes[a]? = some nd) (hk : nd.kind = 11 ∨ nd.kind = 12) (dep : Nat) (hd : dep < 20) (lf : Int → Nat → Int → Int × Nat × Int) (hlf : LfT s B nd.items (dep + 1) lf)
  (txt : Nat → Nat × Int) (htx : ∀ p, p ≤ B.length → Adv B p 0 (txt p).1 (txt p).2 ∧ ∃ l : List UInt8, ToldM Tryz.prog 163 [.ref 1000000 1 0 0] [rB B p 0] [some (rB B (txt p).1 (txt p).2)] (.c (.sl 1 (q0e l))))
  (cnt : Nat → Nat → Int → Nat × Nat × Int) (hcl : CntL B cnt) (hcn : ∀ (h p : Nat) (e : Int), h ≤ 300 → p ≤ B.length → ToldM Tryz.prog 162 [.ref 1000000 1 0 0, .c (.v (.int .i64 (h : Int)))] [rB B p e] [some (rB B (cnt h p e).2.1 (cnt h p e).2.2)] (.c (.v (.int .i64 ((cnt h p e).1 : Int)))))
  (L : Int) (h0 : 1 ≤ L) (h1 : L ≤ 200000) (p : Nat) (hp : p ≤ B.length) : LfE s B (a : Int) dep L p 0 := by
 have hnp : (s.nodes.map NT.cells)[a]? = some nd.cells := by rw [List.getElem?_map, hnd]; rfl
 have ha : a < s.nodes.length := (List.getElem?_eq_some_iff.1 hnd).1
 have hw : IntKind.i64.wrap (L - 1) = L - 1 := q0f (by omega) (by omega)
 have g8 : decide (nd.kind ≤ 8) = false := by simp; omega
 have g10 : (nd.kind == 10) = false := by simp; omega
 have g14 : (nd.kind == 14) = false := by simp; omega
 have g9 : (nd.kind == 9) = false := by simp; omega
 have g13 : (nd.kind == 13) = false := by simp; omega
 have gd : ((dep : Int) == 20) = false := by simp; omega
 have gl : decide (L - 1 < 0) = false := by simp; omega
 have hwd : IntKind.i64.wrap ((dep : Int) + 1) = ((dep + 1 : Nat) : Int) := by rw [q0f (by omega) (by omega)]; omega
 obtain ⟨mp, hmp⟩ : ∃ b, b = (nd.kind == 12) := ⟨_, rfl⟩
 have hstep : StepL B (q8n mp txt lf) := by
  intro M q q1 q2 q3
  unfold q8n
  split
  · obtain ⟨b1, _⟩ := htx q q3
    obtain ⟨c1, c2, c3, _⟩ := hlf M (txt q).1 (txt q).2 q1 q2 b1.le
    exact ⟨Nat.le_trans b1.up c1.up, c1.le, c2, c3⟩
  · obtain ⟨c1, c2, c3, _⟩ := hlf M q 0 q1 q2 q3
    exact ⟨c1.up, c1.le, c2, c3⟩
 obtain ⟨n1, n2, n3, n4⟩ := hcl 0 p 0 (by decide) hp
 have hC0 := hcn 0 p 0 (by decide) hp
 rw [show ((0 : Nat) : Int) = 0 from rfl] at hC0
 obtain ⟨m0, q0, x0, hc0⟩ : ∃ x y z, cnt 0 p 0 = (x, y, z) := ⟨_, _, _, rfl⟩
 rw [hc0] at n1 n2 n3 n4 hC0
 simp only [] at n1 n2 n3 n4 hC0
 obtain ⟨F, hF⟩ : ∃ F, F = runO (q8n mp txt lf) cnt 301 m0 0 (L - 1) q0 x0 := ⟨_, rfl⟩
 obtain ⟨z1, z2, z3, z4⟩ := runO_ok hstep hcl 301 m0 0 (L - 1) q0 x0 n3 (by omega) (by omega) n2
 rw [← hF] at z1 z2 z3 z4
 refine ⟨F.1, F.2.1, F.2.2, ⟨z4, Nat.le_trans n1 z3, fun h => absurd rfl h⟩, z1, by omega, ?_⟩
 unfold LfT at hlf
 rw [ST.av_eq, q0i] at *
 unfold rB at *
 refine VC.toldX q6k [] Tryz.func105 rfl Tryz.ntmps105 fun hb hbL => ?_
 clear hb hbL
 refine q0a (And.intro hnp (And.intro @q0d (And.intro @q1m (And.intro hw (And.intro g8 (And.intro g10 (And.intro g14 (And.intro g9 (And.intro g13 (And.intro gd gl)))))))))) ?_
 refine q01 (@q0d) [1000000] (hC0) ?_
 refine q0a (@q0d) ?_
 refine VC.loop (ι := {q : (Nat × Nat × Nat) × Int × Nat × Int // q.1.1 + q.1.2.1 ≤ 300 ∧ 301 ≤ q.1.2.1 + q.1.2.2 ∧ -1 ≤ q.2.1 ∧ q.2.1 ≤ 200000 ∧ q.2.2.1 ≤ B.length ∧ (q.2.2.2 ≠ 0 → q.1.1 = 0) ∧ F = runO (q8n mp txt lf) cnt q.1.2.2 q.1.1 q.1.2.1 q.2.1 q.2.2.1 q.2.2.2})
  (fun q => [(2, .c (.v (.int .i64 (dep : Int)))), (3, .c (.v (.int .i64 q.1.2.1))), (4, .ref 1000000 1 0 0), (5, .ref 0 1 0 0), (11, .ref 56 1 0 0), (14, .c (.v (.int .i64 (q.1.1.2.1 : Int)))), (15, .c (.v (.int .i64 (q.1.1.1 : Int))))])
  (fun q => [(0, ⟨false, 24, 2, [[.c (.sl 10 (s.nodes.map NT.cells)), .c (.v (.int .i64 s.root))]]⟩), (56, ⟨false, 33, 10, [nd.cells.map .c]⟩), (1000000, ⟨false, 149, 3, [[.c (.sl 1 (q0e B)), .c (.v (.int .i64 (q.1.2.2.1 : Int))), .c (.v (.int .i64 q.1.2.2.2))]]⟩)]) 4000 (fun q => q.1.1.2.2)
  ⟨((m0, 0, 301), L - 1, q0, x0), n3, by simp only []; omega, by simp only []; omega, by simp only []; omega, n2, n4, hF⟩ ?_ ?_
 · simp only [q0d, List.length_map, Weak, eq_self, q0v, q0p, sc_c, q0r, q0s, q0t, q0o, q0q, ScL, q0u, List.forall_mem_map, go_sem, Int.reduceBEq, Int.reduceLE, Int.reduceLT, Int.reduceNeg, Nat.reduceAdd, Nat.reduceEqDiff, Nat.reduceLT, Nat.reduceLeDiff, Nat.reduceMul, Nat.reduceSub, reduceCtorEq, ↓reduceIte]
   (try simp)
 rintro ⟨⟨⟨m, h, k⟩, M, q, e⟩, i1, i2, i3, i4, i5, i6, i7⟩
 simp only [] at i1 i2 i3 i4 i5 i6 i7 ⊢
 by_cases hgo : 0 < m ∧ 0 ≤ M
 rotate_left
 · have g : F = (M, q, e) := by
    rw [i7]
    cases k with
    | zero => rfl
    | succ k => rw [runO, if_neg hgo]
   by_cases hm0 : 0 < m
   · have f1 : decide ((m : Int) > 0) = true := by simpa using hm0
     have f2 : decide (M ≥ 0) = false := by simp; omega
     refine q0a (And.intro @q0d (And.intro f1 f2)) ?_
     refine q16 (g) Tryz.results105 ?_
     exact .c _
   · have f1 : decide ((m : Int) > 0) = false := by simpa using hm0
     refine q0a (And.intro @q0d f1) ?_
     refine q16 (g) Tryz.results105 ?_
     exact .c _
 have f1 : decide ((m : Int) > 0) = true := by simpa using hgo.1
 have f2 : decide (M ≥ 0) = true := by simpa using hgo.2
 have he : e = 0 := Decidable.not_not.1 fun h0 => by have := i6 h0; omega
 obtain ⟨k, rfl⟩ : ∃ k', k = k' + 1 := ⟨k - 1, by omega⟩
 have g := i7
 rw [runO, if_pos hgo] at g
 obtain ⟨RI, hRI⟩ : ∃ RI, RI = runI (q8n mp txt lf) m h M q e := ⟨_, rfl⟩
 obtain ⟨r1, r2, r3, r4, r5, r6⟩ := j39 hstep m h M q e i3 i4 i5
 rw [← hRI] at g r1 r2 r3 r4 r5 r6
 have hh1 : h + 1 ≤ RI.1 := by
  obtain ⟨m', rfl⟩ : ∃ m', m = m' + 1 := ⟨m - 1, by omega⟩
  rw [hRI, runI, if_pos ⟨he, hgo.2⟩]
  obtain ⟨a1, a2, a3, a4⟩ := hstep M q hgo.2 i4 i5
  exact (j39 hstep m' (h + 1) _ _ _ a3 (by omega) a2).1
 refine q0a (And.intro @q0d (And.intro f1 f2)) ?_
 refine VC.loop (ι := {w : (Nat × Nat) × Int × Nat × Int // w.1.1 ≤ m ∧ w.1.2 = h + w.1.1 ∧ -1 ≤ w.2.1 ∧ w.2.1 ≤ 200000 ∧ w.2.2.1 ≤ B.length ∧ RI = runI (q8n mp txt lf) (m - w.1.1) w.1.2 w.2.1 w.2.2.1 w.2.2.2})
  (fun w => [(2, .c (.v (.int .i64 (dep : Int)))), (3, .c (.v (.int .i64 w.1.2.1))), (4, .ref 1000000 1 0 0), (5, .ref 0 1 0 0), (11, .ref 56 1 0 0), (14, .c (.v (.int .i64 (w.1.1.2 : Int)))), (15, .c (.v (.int .i64 (m : Int)))), (16, .c (.v (.int .i64 (w.1.1.1 : Int))))])
  (fun w => [(0, ⟨false, 24, 2, [[.c (.sl 10 (s.nodes.map NT.cells)), .c (.v (.int .i64 s.root))]]⟩), (56, ⟨false, 33, 10, [nd.cells.map .c]⟩), (1000000, ⟨false, 149, 3, [[.c (.sl 1 (q0e B)), .c (.v (.int .i64 (w.1.2.2.1 : Int))), .c (.v (.int .i64 w.1.2.2.2))]]⟩)]) 8000 (fun w => m - w.1.1.1)
  ⟨((0, h), M, q, e), Nat.zero_le _, rfl, i3, i4, i5, hRI⟩ ?_ ?_
 · exact q2f (@q0d)
 rintro ⟨⟨⟨i, hh⟩, M2, q2, e2⟩, j1, j2, j3, j4, j5, j6⟩
 simp only [] at j1 j2 j3 j4 j5 j6 ⊢
 by_cases hin : i < m ∧ (e2 = 0 ∧ 0 ≤ M2)
 rotate_left
 · have gR : RI = (hh, M2, q2, e2) := by
    rw [j6]
    exact runI_end (by omega)
   rw [gR] at g r1 r2 r3 r4 r5 r6 hh1
   simp only [] at g r1 r2 r3 r4 r5 r6 hh1
   obtain ⟨b1, b2, b3, b4⟩ := hcl hh q2 e2 (by omega) j5
   have hC := hcn hh q2 e2 (by omega) j5
   obtain ⟨m3, q3, e3, hc3⟩ : ∃ x y z, cnt hh q2 e2 = (x, y, z) := ⟨_, _, _, rfl⟩
   rw [hc3] at b1 b2 b3 b4 hC g
   simp only [] at b1 b2 b3 b4 hC g
   by_cases hi : i < m
   · have k1 : decide ((i : Int) < (m : Int)) = true := by simp; omega
     by_cases he2 : e2 = 0
     · have k3 : decide (M2 ≥ 0) = false := by simp; omega
       have k2 : (e2 == 0) = true := by simpa using he2
       refine q0a (And.intro @q0d (And.intro k1 (And.intro k2 k3))) ?_
       refine q01 (@q0d) [1000000] (hC) ?_
       refine q0a (@q0d) ?_
       refine .next ⟨((m3, hh, k), M2, q3, e3), by simp only []; omega, by simp only []; omega, j3, j4, b2, b4, g⟩ ?_ (by simp only []; omega)
       exact q2f (@q0d)
     · have k2 : (e2 == 0) = false := by simpa using he2
       refine q0a (And.intro @q0d (And.intro k1 k2)) ?_
       refine q01 (@q0d) [1000000] (hC) ?_
       refine q0a (@q0d) ?_
       refine .next ⟨((m3, hh, k), M2, q3, e3), by simp only []; omega, by simp only []; omega, j3, j4, b2, b4, g⟩ ?_ (by simp only []; omega)
       exact q2f (@q0d)
   · have k1 : decide ((i : Int) < (m : Int)) = false := by simp; omega
     refine q0a (And.intro @q0d k1) ?_
     refine q01 (@q0d) [1000000] (hC) ?_
     refine q0a (@q0d) ?_
     refine .next ⟨((m3, hh, k), M2, q3, e3), by simp only []; omega, by simp only []; omega, j3, j4, b2, b4, g⟩ ?_ (by simp only []; omega)
     exact q2f (@q0d)
 obtain ⟨hi, he2, hM2⟩ := hin
 subst he2
 have k1 : decide ((i : Int) < (m : Int)) = true := by simp; omega
 have k3 : decide (M2 ≥ 0) = true := by simpa using hM2
 have hwi : IntKind.i64.wrap ((i : Int) + 1) = ((i + 1 : Nat) : Int) := by rw [q0f (by omega) (by omega)]; omega
 have hwh : IntKind.i64.wrap ((hh : Int) + 1) = ((hh + 1 : Nat) : Int) := by rw [q0f (by omega) (by omega)]; omega
 have gj := j6
 obtain ⟨z, hz⟩ : ∃ z, m - i = z + 1 := ⟨m - i - 1, by omega⟩
 have hz' : m - (i + 1) = z := by omega
 rw [hz, runI, if_pos ⟨rfl, hM2⟩, ← hz'] at gj
 cases mp with
 | true =>
   have e12 : (nd.kind == 12) = true := hmp.symm
   obtain ⟨t1, l, hT⟩ := htx q2 j5
   rw [q8n, if_pos rfl] at gj
   have t2 := t1.le
   generalize txt q2 = T at t1 t2 hT gj
   obtain ⟨c1, c2, c3, hL⟩ := hlf M2 T.1 T.2 hM2 j4 t2
   have c4 := c1.le
   generalize lf M2 T.1 T.2 = R at c1 c2 c3 c4 hL gj
   refine q0a (And.intro @q0d (And.intro k1 (And.intro k3 e12))) ?_
   refine q01 (@q0d) [1000000] (hT) ?_
   refine q0a (And.intro @q0d hwd) ?_
   refine q01 (@q0d) [1000000] (hL) ?_
   refine q0a (And.intro @q0d (And.intro hwi hwh)) ?_
   refine .next ⟨((i + 1, hh + 1), R.1, R.2.1, R.2.2), hi, by simp only []; omega, c2, by simp only []; omega, c4, gj⟩ ?_ (by simp only []; omega)
   exact q2f (@q0d)
 | false =>
   have e12 : (nd.kind == 12) = false := hmp.symm
   rw [q8n, if_neg Bool.false_ne_true] at gj
   obtain ⟨c1, c2, c3, hL⟩ := hlf M2 q2 0 hM2 j4 j5
   have c4 := c1.le
   generalize lf M2 q2 0 = R at c1 c2 c3 c4 hL gj
   refine q0a (And.intro @q0d (And.intro k1 (And.intro k3 (And.intro e12 hwd)))) ?_
   refine q01 (@q0d) [1000000] (hL) ?_
   refine q0a (And.intro @q0d (And.intro hwi hwh)) ?_
   refine .next ⟨((i + 1, hh + 1), R.1, R.2.1, R.2.2), hi, by simp only []; omega, c2, by simp only []; omega, c4, gj⟩ ?_ (by simp only []; omega)
   exact q2f (@q0d)

theorem z0c (s : ST) (B : List UInt8) (hB : B.length ≤ 1000000) (a : Nat) (nd : NT) (hnd : s.nodes[a]? = some nd) (hN : q2h s.nodes nd = true) (hk : nd.kind < 9 ∨ nd.kind = 10 ∨ nd.kind = 14) (dep : Nat) (p : Nat) (hp : p ≤ B.length) (e : Int) : q5e s (a : Int) dep B p e := by
 by_cases he : e = 0
 rotate_left
 · exact z49 s B a nd hnd hk dep p hp e he
 subst he
 unfold q2h at hN
 simp only [Bool.and_eq_true, decide_eq_true_eq] at hN
 obtain ⟨⟨k1, k2, _⟩, _, hS⟩ := hN
 by_cases h2 : nd.kind = 2
 · exact z41 s B hB a nd hnd h2 dep p hp
 by_cases h3 : nd.kind = 3
 · exact z42 s B hB a nd hnd h3 dep p hp
 by_cases h4 : nd.kind = 4
 · exact z43 s B hB a nd hnd h4 dep p hp
 by_cases h5 : nd.kind = 5
 · exact z44 s B hB a nd hnd h5 dep p hp
 by_cases h6 : nd.kind = 6
 · exact z45 s B hB a nd hnd h6 dep p hp
 by_cases h7 : nd.kind = 7
 · exact z47 s B hB a nd hnd h7 dep p hp
 by_cases h8 : nd.kind = 8
 · exact z48 s B hB a nd hnd h8 dep p hp
 by_cases h14 : nd.kind = 14
 · rw [h14, if_neg (by decide), if_neg (by decide), if_pos rfl] at hS
   simp only [Bool.and_eq_true, decide_eq_true_eq] at hS
   exact z4z s B hB a nd hnd h14 ⟨by omega, by omega⟩ dep p hp
 by_cases h10 : nd.kind = 10
 · exact z4y s B hB a nd hnd h10 dep p hp
 · exact z40 s B hB a nd hnd (by omega) dep p hp
theorem z5d (s : ST) (hr : q1s s = true) (B : List UInt8) (hB : B.length ≤ 1000000) : ∀ (d : Nat), d ≤ 20 → ∀ a : Int, 0 ≤ a → a < (s.nodes.length : Int) → ∀ L p e, 0 ≤ L → L ≤ 200000 → p ≤ B.length → LfE s B a (20 - d) L p e := by
 obtain ⟨txt, htx⟩ : ∃ txt : Nat → Nat × Int, ∀ p, p ≤ B.length → Adv B p 0 (txt p).1 (txt p).2 ∧ ∃ l : List UInt8, ToldM Tryz.prog 163 [.ref 1000000 1 0 0] [rB B p 0] [some (rB B (txt p).1 (txt p).2)] (.c (.sl 1 (q0e l))) := by
  have key : ∀ p : Nat, ∃ t : Nat × Int, p ≤ B.length → Adv B p 0 t.1 t.2 ∧ ∃ l : List UInt8, ToldM Tryz.prog 163 [.ref 1000000 1 0 0] [rB B p 0] [some (rB B t.1 t.2)] (.c (.sl 1 (q0e l))) := by
   intro p
   by_cases h : p ≤ B.length
   · obtain ⟨l, q, e', h1, h2⟩ := j91 B hB p h 0
     exact ⟨(q, e'), fun _ => ⟨h1, l, h2⟩⟩
   · exact ⟨(0, 0), fun h' => absurd h' h⟩
  exact ⟨fun p => Classical.choose (key p), fun p hp => Classical.choose_spec (key p) hp⟩
 obtain ⟨cnt, hcnt⟩ : ∃ cnt : Nat → Nat → Int → Nat × Nat × Int, ∀ (h p : Nat) (e : Int), h ≤ 300 → p ≤ B.length → (p ≤ (cnt h p e).2.1 ∧ (cnt h p e).2.1 ≤ B.length ∧ (cnt h p e).1 + h ≤ 300 ∧ ((cnt h p e).2.2 ≠ 0 → (cnt h p e).1 = 0)) ∧
   ToldM Tryz.prog 162 [.ref 1000000 1 0 0, .c (.v (.int .i64 (h : Int)))] [rB B p e] [some (rB B (cnt h p e).2.1 (cnt h p e).2.2)] (.c (.v (.int .i64 ((cnt h p e).1 : Int)))) := by
  have key : ∀ (h p : Nat) (e : Int), ∃ t : Nat × Nat × Int, h ≤ 300 → p ≤ B.length → (p ≤ t.2.1 ∧ t.2.1 ≤ B.length ∧ t.1 + h ≤ 300 ∧ (t.2.2 ≠ 0 → t.1 = 0)) ∧
    ToldM Tryz.prog 162 [.ref 1000000 1 0 0, .c (.v (.int .i64 (h : Int)))] [rB B p e] [some (rB B t.2.1 t.2.2)] (.c (.v (.int .i64 (t.1 : Int)))) := by
   intro h p e
   by_cases hh : h ≤ 300 ∧ p ≤ B.length
   · obtain ⟨m, q, e', h1, h2, h3, h4⟩ := z4p B hB p hh.2 e h hh.1
     exact ⟨(m, q, e'), fun _ _ => ⟨⟨h1.up, h1.le, h2, h3⟩, h4⟩⟩
   · exact ⟨(0, 0, 0), fun h1 h2 => absurd ⟨h1, h2⟩ hh⟩
  exact ⟨fun h p e => Classical.choose (key h p e), fun h p e h1 h2 => Classical.choose_spec (key h p e) h1 h2⟩
 intro d
 induction d with
 | zero =>
   intro _ a ha ha' L p e h0 h1 hp
   obtain ⟨m, rfl⟩ : ∃ m : Nat, a = (m : Int) := ⟨a.toNat, by omega⟩
   obtain ⟨nd, hnd⟩ : ∃ nd, s.nodes[m]? = some nd := ⟨_, List.getElem?_eq_getElem (show m < s.nodes.length by omega)⟩
   have hN := j06 hr nd (List.mem_of_getElem? hnd)
   have hkk : (nd.kind < 9 ∨ nd.kind = 10 ∨ nd.kind = 14) ∨ (nd.kind = 9 ∨ nd.kind = 11 ∨ nd.kind = 12 ∨ nd.kind = 13) := by
    unfold q2h at hN
    simp only [Bool.and_eq_true, decide_eq_true_eq] at hN
    omega
   rcases hkk with hk | hk
   · exact z0e s B m nd hnd hk _ L h0 h1 p e (z0c s B hB m nd hnd hN hk _ p hp e)
   · exact z0d s B m nd hnd hk _ L h0 h1 p hp e (.inl rfl)
 | succ d ih =>
   intro hd a ha ha' L p e h0 h1 hp
   obtain ⟨m, rfl⟩ : ∃ m : Nat, a = (m : Int) := ⟨a.toNat, by omega⟩
   obtain ⟨nd, hnd⟩ : ∃ nd, s.nodes[m]? = some nd := ⟨_, List.getElem?_eq_getElem (show m < s.nodes.length by omega)⟩
   have hmem := List.mem_of_getElem? hnd
   have hN := j06 hr nd hmem
   have hkk : (nd.kind < 9 ∨ nd.kind = 10 ∨ nd.kind = 14) ∨ (nd.kind = 9 ∨ nd.kind = 11 ∨ nd.kind = 12 ∨ nd.kind = 13) := by
    unfold q2h at hN
    simp only [Bool.and_eq_true, decide_eq_true_eq] at hN
    omega
   rcases hkk with hk | hk
   · exact z0e s B m nd hnd hk _ L h0 h1 p e (z0c s B hB m nd hnd hN hk _ p hp e)
   by_cases hstop : e ≠ 0 ∨ L = 0
   · exact z0d s B m nd hnd hk _ L h0 h1 p hp e (.inr ⟨by omega, hstop⟩)
   have he : e = 0 := Decidable.not_not.1 fun h => hstop (.inl h)
   subst he
   have hL1 : 1 ≤ L := by
    have : L ≠ 0 := fun h => hstop (.inr h)
    omega
   have hkid := q8d (j1t hr) nd hmem
   obtain ⟨lf, hlf⟩ := lf_of (ih (by omega))
   have hdep : 20 - (d + 1) < 20 := by omega
   have hdep1 : 20 - d = 20 - (d + 1) + 1 := by omega
   rw [hdep1] at hlf
   unfold q2h at hN
   simp only [Bool.and_eq_true, decide_eq_true_eq] at hN
   have hS := hN.2.2
   by_cases h9 : nd.kind = 9
   · rw [if_pos h9] at hS
     unfold q56 at hS
     simp only [Bool.and_eq_true, decide_eq_true_eq] at hS
     have hkf : ∀ t ∈ nd.fields, 0 ≤ t.type ∧ t.type < (s.nodes.length : Int) := fun t ht => hkid t.type (by unfold q1e; rw [if_pos h9]; exact List.mem_map_of_mem ht)
     exact z5c s B m nd hnd h9 _ hdep lf (by omega) (fun t ht => hlf t.type (hkf t ht).1 (hkf t ht).2) L hL1 h1 p hp
   by_cases h13 : nd.kind = 13
   · have hbk : ∀ b ∈ nd.branches, 0 ≤ b ∧ b < (s.nodes.length : Int) := fun b hb => hkid b (by unfold q1e; rw [if_neg h9, if_neg (by omega), if_pos h13]; exact hb)
     rw [h13, if_neg (by decide), if_neg (by decide), if_neg (by decide), if_pos rfl] at hS
     unfold j09 at hS
     simp only [Bool.and_eq_true, decide_eq_true_eq] at hS
     exact z5b s B hB m nd hnd h13 _ hdep lf (by omega) (fun b hb => hlf b (hbk b hb).1 (hbk b hb).2) L hL1 h1 p hp
   · have hk2 : nd.kind = 11 ∨ nd.kind = 12 := by omega
     have hb := hkid nd.items (by unfold q1e; rw [if_neg h9, if_pos hk2]; simp)
     exact z5a s B hB m nd hnd hk2 _ hdep (lf nd.items) (hlf _ hb.1 hb.2) txt htx cnt (fun h p e h1 h2 => (hcnt h p e h1 h2).1) (fun h p e h1 h2 => (hcnt h p e h1 h2).2) L hL1 h1 p hp
theorem z5e (s : ST) (hs : s.sm 1000000) (hdp : ∀ n ∈ s.nodes, ∀ f ∈ n.fields, q2b f.dflt ≤ 1000) (a : Int) (B : List UInt8) (hB : B.length ≤ 1000000) (p : Int) : ∃ b : Bool, Told Tryz.prog 59 [s.av, .c (.v (.int .i64 a)), .c (.sl 1 (q0e B)), .c (.v (.int .i64 p))] (.c (.v (.bool b))) := by
 have hR := z4m s hs hdp
 have hbl := q5f B
 rw [ST.av_eq] at hR ⊢
 rw [q0i] at hR ⊢
 cases hr : q1s s with
 | false =>
   rw [hr] at hR
   refine ⟨false, ?_⟩
   refine VC.toldP j1j Tryz.func59 rfl Tryz.ntmps59 fun hb => ?_
   clear hb
   refine q0c (@q0i) ?_
   refine q06 (@q02) (hR) ?_
   refine q0m ?_
   refine retX Tryz.results59 ?_
   exact .c _
 | true =>
 rw [hr] at hR
 by_cases h1 : a < 0
 · have e1 : decide (a < 0) = true := by simpa using h1
   refine ⟨false, ?_⟩
   refine VC.toldP j1j Tryz.func59 rfl Tryz.ntmps59 fun hb => ?_
   clear hb
   refine q0c (@q0i) ?_
   refine q06 (@q02) (hR) ?_
   refine q0a (e1) ?_
   refine retX Tryz.results59 ?_
   exact .c _
 have e1 : decide (a < 0) = false := by simpa using h1
 by_cases h2 : (s.nodes.length : Int) ≤ a
 · have e2 : decide (a ≥ (s.nodes.length : Int)) = true := by simpa using h2
   refine ⟨false, ?_⟩
   refine VC.toldP j1j Tryz.func59 rfl Tryz.ntmps59 fun hb => ?_
   clear hb
   refine q0c (@q0i) ?_
   refine q06 (@q02) (hR) ?_
   refine q0a (And.intro e1 e2) ?_
   refine retX Tryz.results59 ?_
   exact .c _
 have e2 : decide (a ≥ (s.nodes.length : Int)) = false := by simpa using h2
 by_cases h3 : p < 0
 · have e3 : decide (p < 0) = true := by simpa using h3
   refine ⟨false, ?_⟩
   refine VC.toldP j1j Tryz.func59 rfl Tryz.ntmps59 fun hb => ?_
   clear hb
   refine q0c (@q0i) ?_
   refine q06 (@q02) (hR) ?_
   refine q0a (And.intro e1 (And.intro e2 e3)) ?_
   refine retX Tryz.results59 ?_
   exact .c _
 have e3 : decide (p < 0) = false := by simpa using h3
 by_cases h4 : (B.length : Int) < p
 · have e4 : decide (p > (B.length : Int)) = true := by simpa using h4
   refine ⟨false, ?_⟩
   refine VC.toldP j1j Tryz.func59 rfl Tryz.ntmps59 fun hb => ?_
   clear hb
   refine q0c (@q0i) ?_
   refine q06 (@q02) (hR) ?_
   refine q0a (And.intro e1 (And.intro e2 (And.intro e3 (And.intro e4 hbl)))) ?_
   refine retX Tryz.results59 ?_
   exact .c _
 have e4 : decide (p > (B.length : Int)) = false := by simpa using h4
 obtain ⟨m, rfl⟩ : ∃ m : Nat, p = (m : Int) := ⟨p.toNat, by omega⟩
 obtain ⟨L, q, e', _, _, _, hT⟩ := z5d s hr B hB 20 (Nat.le_refl _) a (by omega) (by omega) 200000 m 0 (by decide) (by decide) (by omega)
 rw [show ((20 - 20 : Nat) : Int) = 0 from rfl, ST.av_eq, q0i] at hT
 unfold rB at hT
 refine ⟨decide (L < 0), ?_⟩
 refine VC.toldP j1j Tryz.func59 rfl Tryz.ntmps59 fun hb => ?_
 clear hb
 refine q0c (@q0i) ?_
 refine q06 (@q02) (hR) ?_
 refine q0a (And.intro e1 (And.intro e2 (And.intro e3 (And.intro e4 (And.intro hbl @q0i))))) ?_
 refine q0z [248] (hT) ?_
 refine q0m ?_
 refine retX Tryz.results59 ?_
 exact .c _
theorem much_told (s : ST) (hs : s.sm 1000000) (hdp : ∀ n ∈ s.nodes, ∀ f ∈ n.fields, q2b f.dflt ≤ 1000) (a : Int) (B : List UInt8) (hB : B.length ≤ 1000000) (p : Int) : ∃ b : Bool, Told Tryz.prog 26 [s.av, .c (.v (.int .i64 a)), .c (.sl 1 (q0e B)), .c (.v (.int .i64 p))] (.c (.v (.bool b))) := by
 obtain ⟨b, hM⟩ := z5e s hs hdp a B hB p
 refine ⟨b, ?_⟩
 rw [ST.av_eq] at hM ⊢
 refine VC.toldP ent_26 Tryz.func26 rfl Tryz.ntmps26 fun hb => ?_
 clear hb
 refine q0c (And.intro @q23 (And.intro @q26 @q27)) ?_
 refine q06 (@q02) (hM) ?_
 refine q0b ?_
 refine retX Tryz.results26 ?_
 exact .c _
section

section
variable {P : Program} {ops : Array Oper} {o : Oper} {t : Nat → AV} {h : Nat → Option Blkd}
end
end

theorem catK_le (ns : List NT) : ∀ (ks : List (List UInt8)) (xs : List VT) (f : Nat → Int) (i : Nat) (x : VT), ks.length = xs.length → xs[i]? = some x → (encP ns (f i) x).length ≤ (catK ns f ks xs).length
 | _, [], f, i, x, _, h => by simp at h
 | [], y :: ys, f, i, x, hk, h => by simp at hk
 | k :: ks, y :: ys, f, 0, x, hk, h => by
   obtain rfl := Option.some.inj h
   rw [j0x]
   simp only [List.length_append]
   omega
 | k :: ks, y :: ys, f, i + 1, x, hk, h => by
   have := catK_le ns ks ys (fun i => f (i + 1)) i x (by simpa using hk) (by simpa using h)
   rw [j0x]
   simp only [List.length_append]
   omega
theorem blkP_le {m : Nat} (hm : m ≠ 0) (l : List UInt8) : l.length ≤ (blkP m l).length := by
 unfold blkP
 rw [if_neg hm]
 simp only [List.length_append]
 omega
theorem part_le {ns : List NT} {a : Int} {nd : NT} (hnd : ns[a.toNat]? = some nd) {n b : Int} {t : List UInt8} {xs : List VT} {ks : List (List UInt8)} (h12 : nd.kind = 12 → ks.length = xs.length) (hk : nd.kind = 9 ∨ nd.kind = 11 ∨ nd.kind = 12 ∨ nd.kind = 13) {i : Nat} {x : VT} (hx : xs[i]? = some x) :
  (encP ns (q08 nd n i) x).length ≤ (encP ns a (.mk nd.kind n b t xs ks)).length := by
 have hl : xs.length ≠ 0 := by
  have := (List.getElem?_eq_some_iff.1 hx).1
  omega
 rw [j0z hnd, q08]
 by_cases h9 : nd.kind = 9
 · rw [if_pos h9, if_pos h9]
   exact j41 ns xs (fun j => q2u nd j) i x hx
 rw [if_neg h9, if_neg h9]
 by_cases h13 : nd.kind = 13
 · rw [if_pos h13, if_neg (by omega), if_neg (by omega), if_pos h13, List.length_append]
   have := j41 ns xs (fun _ => q2x nd n) i x hx
   omega
 rw [if_neg h13]
 by_cases h11 : nd.kind = 11
 · rw [if_pos h11]
   exact Nat.le_trans (j41 ns xs (fun _ => nd.items) i x hx) (blkP_le hl _)
 have hk2 : nd.kind = 12 := by omega
 rw [if_neg h11, if_pos hk2]
 have hkl := h12 hk2
 exact Nat.le_trans (catK_le ns ks xs (fun _ => nd.items) i x hkl hx) (blkP_le (by omega) _)
theorem dec_plain {s : ST} (hr : q1s s = true) : ∀ (z : Nat) (v : VT), SizeOf.sizeOf v ≤ z → ∀ (d : Nat) (a : Int), 0 ≤ a → isM s.nodes a v = true → q2l v ≤ d → v.inr → v.lng → (encP s.nodes a v).length ≤ 1000000000 → v.sm 1000000 → ∀ c, Back (decM s.nodes d a) (encM s.nodes [] a v c).1 v := by
 intro z
 induction z with
 | zero => intro v hv; cases v; simp at hv
 | succ z ih =>
 intro v hv d a ha hm hd hir hlg hw hsm c
 have hlen : (encM s.nodes [] a v c).1.length ≤ 1000000000 := by rw [j5e]; exact hw
 have hvz := hv
 cases v with
 | mk k n b t xs ks =>
 obtain ⟨nd, hnd⟩ : ∃ nd, s.nodes[a.toNat]? = some nd := by
  cases h : s.nodes[a.toNat]? with
  | none => rw [isM, h] at hm; simp at hm
  | some nd => exact ⟨nd, rfl⟩
 have hN := j06 hr nd (List.mem_of_getElem? hnd)
 unfold q2h at hN
 simp only [Bool.and_eq_true] at hN
 have hS := hN.2.2
 obtain ⟨rfl, hvb, ht2, p9, p12, p13, p14, p2, p5⟩ := j3r hnd hm
 have hxs : ∀ d', q2l (.mk nd.kind n b t xs ks) ≤ d' + 1 → ∀ (i : Nat) (x : VT), xs[i]? = some x → ∀ c, Back (decM s.nodes d' (q08 nd n i)) (encM s.nodes [] (q08 nd n i) x c).1 x := fun d' hd' i x hx c => by
  have hI := item_in hr hnd hm hx
  have hmem := List.mem_of_getElem? hx
  have hkk : nd.kind = 9 ∨ nd.kind = 11 ∨ nd.kind = 12 ∨ nd.kind = 13 := by
   by_cases h : nd.kind = 9 ∨ nd.kind = 11 ∨ nd.kind = 12 ∨ nd.kind = 13
   · exact h
   · have := q6z hvb (by omega) (by omega) (by omega) (by omega)
     have := (List.getElem?_eq_some_iff.1 hx).1
     omega
  refine ih x ?_ d' _ hI.2.1 hI.1 ?_ ?_ ?_ ?_ ?_ c
  · have h3 := List.sizeOf_lt_of_mem hmem
    simp at hv
    omega
  · rw [q2l, if_pos hkk] at hd'
    have := (j4p xs 1).2 x hmem
    omega
  · exact z1o hir.2 x hmem
  · exact j69 hlg.2 x hmem
  · exact Nat.le_trans (part_le hnd p12 hkk hx) hw
  · exact j2q hsm.2.2.2.2.2 x hmem
 clear ih
 have hh := hm
 rw [q67 hnd, Bool.and_eq_true] at hh
 cases hk : q3m nd.kind with
 | false =>
   have hk9 : nd.kind ≠ 9 ∧ nd.kind ≠ 11 ∧ nd.kind ≠ 12 ∧ nd.kind ≠ 13 := by
    unfold q3m at hk
    simp at hk
    omega
   obtain rfl : xs = [] := List.eq_nil_of_length_eq_zero (q6z hvb hk9.1 hk9.2.1 hk9.2.2.1 hk9.2.2.2)
   obtain rfl : ks = [] := z6t hvb hk9.2.2.1
   rw [j15 hnd hk, encM, hnd]
   simp only []
   rw [if_neg hk9.1, if_neg hk9.2.1, if_neg hk9.2.2.1, if_neg hk9.2.2.2]
   refine back_leaf hh.1 hk hir.1 hlg.1 fun h10 => ?_
   rw [if_neg (by omega), if_pos h10] at hS
   simp only [Bool.and_eq_true, decide_eq_true_eq] at hS
   exact hS.2.2.1
 | true =>
 have hkk : nd.kind = 9 ∨ nd.kind = 11 ∨ nd.kind = 12 ∨ nd.kind = 13 := by
  unfold q3m at hk
  simp at hk
  omega
 have hd1 := hd
 rw [q2l, if_pos hkk] at hd1
 obtain ⟨d, rfl⟩ : ∃ d', d = d' + 1 := ⟨d - 1, by have := (j4p xs 1).1; omega⟩
 have hys := hxs d hd
 clear hxs
 rw [j47 hnd hk, j1r]
 rw [encM, hnd] at hlen ⊢
 simp only [] at hlen ⊢
 obtain ⟨v1, v2, v3, _, v5⟩ := j4n hvb
 obtain rfl := v2 (by omega)
 obtain rfl := v3 (by omega)
 by_cases h9 : nd.kind = 9
 · obtain rfl := v1 (by omega)
   obtain rfl := v5 (by omega)
   rw [if_pos h9, if_pos h9]
   refine q21 (x := xs) ?_ rfl
   have hel := q34 s.nodes [] xs (fun j => q2u nd j)
   have hx9 := p9 h9
   refine j7t nd.fields _ xs [] c (by rw [hel, hx9]) hx9 fun i g x hg hx c => ?_
   rw [j17 s.nodes [] xs _ i x hx] at hg
   obtain rfl := Option.some.inj hg
   have := hys i x hx c
   rw [q08, if_pos h9] at this
   exact this
 rw [if_neg h9] at hlen ⊢
 rw [if_neg h9]
 by_cases h13 : nd.kind = 13
 · obtain rfl := v5 (by omega)
   obtain ⟨q1, q2, q3⟩ := p13 h13
   obtain ⟨x, rfl⟩ := List.length_eq_one_iff.1 q3
   rw [if_pos h13, if_neg (by omega), if_neg (by omega), if_pos h13]
   refine q62 (j7v (j0v hlg.1.1 hlg.1.2) q1 q2) ?_
   rw [q1a, q1a, seqF, seqF]
   simp only [List.append_nil]
   have := hys 0 x rfl c
   rw [q08, if_neg h9, if_pos h13] at this
   exact q21 this rfl
 rw [if_neg h13]
 obtain rfl := v1 (by omega)
 have hat : ∀ i, q08 nd 0 i = nd.items := fun i => by rw [q08, if_neg h9, if_neg h13]
 have hmem : ∀ x ∈ xs, ∀ c, Back (decM s.nodes d nd.items) (encM s.nodes [] nd.items x c).1 x := fun x hx c => by
  obtain ⟨i, hi⟩ := List.getElem?_of_mem hx
  have := hys i x hi c
  rwa [hat] at this
 have h300 : xs.length ≤ 300 := by
  have := hh.1
  unfold q3a at this
  simp only [Bool.and_eq_true] at this
  have := this.2
  rcases hkk with h | h | h | h
  · omega
  · rw [h] at this
    simpa using this
  · rw [h] at this
    simp at this
    exact this.2
  · omega
 by_cases h11 : nd.kind = 11
 · obtain rfl := v5 (by omega)
   rw [if_pos h11] at hlen ⊢
   refine q21 (x := (xs, [])) ?_ rfl
   have hb := j7o (item := q4x (nd.kind == 12) (decM s.nodes d nd.items)) (by rw [h11]; rfl) xs hmem
   have := j7q [] xs.length _ _ 301 [] [] c hb (by rw [q34]; exact Nat.le_refl _) (by rw [q34]; simpa using h300) (by rw [q34]; omega) (by omega)
   have e1 : (xs.map fun x => (([] : List (List UInt8)), x)).map (·.2) = xs := by rw [List.map_map]; exact List.map_id xs
   have e2 : ((xs.map fun x => (([] : List (List UInt8)), x)).map (·.1)).flatten = [] := by rw [List.map_map]; simp
   rw [e1, e2] at this
   exact this
 · have h12 : nd.kind = 12 := by omega
   rw [if_neg h11, if_pos h12] at hlen ⊢
   have hkl := p12 h12
   have hka : ∀ y ∈ ks, keyM y = true := by
    have := hh.1
    unfold q3a at this
    simp only [Bool.and_eq_true] at this
    have := this.2
    rw [h12] at this
    simp at this
    exact this.1.2
   refine q21 (x := (xs, ks)) ?_ rfl
   have hb := j7n (item := q4x (nd.kind == 12) (decM s.nodes d nd.items)) (by rw [h12]; rfl) ks xs hkl hka hmem
   have hzl : (List.zipWith keyF ks (q1a s.nodes [] (fun _ => nd.items) xs)).length = xs.length := by rw [List.length_zipWith, q34, hkl, Nat.min_self]
   have := j7q [] xs.length _ _ 301 [] [] c hb (by rw [hzl]; exact Nat.le_refl _) (by rw [hzl]; simpa using h300) (by rw [hzl]; omega) (by omega)
   obtain ⟨e1, e2⟩ := z2e ks xs hkl
   rw [e1, e2] at this
   exact this

theorem z3w (s : ST) (hs : s.sm 1000000) (v : VT) (hv : v.sm 1000000) (hlg : v.lng) (hd : q2l v ≤ 20) (a : Int) (hr : conM s a v (q1s s) = true) (hl : (encP s.nodes a v).length ≤ 20000) :
  Told Tryz.prog 63 [s.av, .c (.v (.int .i64 a)), v.av, .c (.sl 1 [])] (.tup [.c (.sl 1 (q0e (encP s.nodes a v))), .c (.v (.int .i64 0))]) := by
 have hC := z1j s hs v hv a
 have hD := z1l _ v (Nat.le_refl _) (by omega) hv
 rw [hr] at hC
 have e20 : decide ((q2l v : Int) > 20) = false := by simp; omega
 obtain ⟨a0, a1, hr1, hm⟩ := z22 hr
 have hst := j5e s.nodes v a 0
 unfold encP at hl
 have h2 : (encM s.nodes [] a v 0).2 = 0 := by rw [hst]
 have hP := put_told s hr1 hs.1 s.root [] (by simp) (by simp) _ v (Nat.le_refl _) hv hlg a a0 a1 hm [] 0 (by simp; omega) (by omega)
 simp only [List.nil_append, List.length_nil] at hP
 unfold encP
 clear hst
 obtain ⟨E, hE⟩ : ∃ E, E = encM s.nodes [] a v 0 := ⟨_, rfl⟩
 rw [← hE] at hP hl ⊢
 simp only [bB, j10] at hP
 have hP : ToldM Tryz.prog _ _ ([xE s.nodes s.root [] 0] ++ [⟨true, 5, 1, []⟩]) _ _ := hP
 unfold xE at hP
 rw [show ((0 : Nat) : Int) = 0 from rfl, List.map_nil] at hP
 rw [ST.av_eq, VT.av_eq] at hC ⊢
 rw [VT.av_eq] at hD hP
 rw [q0i] at hC ⊢
 have e3 : decide ((E.1.length : Int) > 20000) = false := by simp; omega
 refine VC.toldP ent_63 Tryz.func63 rfl Tryz.ntmps63 fun hb => ?_
 clear hb
 refine q0c (And.intro @q1b (And.intro @q1n @q1i)) ?_
 refine q06 (@q02) (hC) ?_
 refine q0a (And.intro @q1b (And.intro @q1n @q1i)) ?_
 refine q06 (@q02) (hD) ?_
 refine q0a (And.intro e20 (And.intro @q1b (And.intro @q1n @q1i))) ?_
 ((refine AO.step fun K hK => ?_; simp only [go_sem, Int.reduceBEq, Int.reduceLE, Int.reduceLT, Int.reduceNeg, Nat.reduceAdd, Nat.reduceEqDiff, Nat.reduceLT, Nat.reduceLeDiff, Nat.reduceMul, Nat.reduceSub, reduceCtorEq, ↓reduceIte, j10, q00]; (first | refine q1k ?_ | skip)); (first | refine .inr (.inr (.inr ⟨?vy1, [136], ?vt1, ?vz1, ?va1, ?vl1, ?vm1, ?cond1, ?cont1⟩)) | refine .inr (.inr (.inr (.inl ⟨?vy1, [136], ?vt1, ?vz1, ?va1, ?vl1, ?vm1, ?cond1, ?cont1⟩)))); (case cond1 => ((repeat' apply And.intro) <;> (try ((with_reducible show ToldM _ _ _ _ _ _); exact hP))); (all_goals first | trivial | (simp only [j10, q00, go_sem, simprocAttr]; done) | (simp; done) | rfl)); (first | refine hK _ _ _ ?_ | (simp only [j10, q00, go_sem, simprocAttr]; first | refine hK _ _ _ ?_ | refine ⟨rfl, hK _ _ _ ?_⟩)); clear hK K)
 refine q0a (And.intro @q0k (And.intro @q00 e3)) ?_
 refine retX Tryz.results63 ?_
 exact ⟨q37 (f := fun b : UInt8 => [PV.v (.int .u8 (b.toNat : Int))]) (l := E.1) (T := 5) (by rw [q00]; rfl) rfl rfl (by simp), .c _⟩
theorem z3x (s : ST) (hs : s.sm 1000000) (v : VT) (hv : v.sm 1000000) (hlg : v.lng) (hd : q2l v ≤ 20) (a : Int) (hr : conM s a v (q1s s) = true) (hl : (encP s.nodes a v).length ≤ 20000) :
  Told Tryz.prog 31 [s.av, .c (.v (.int .i64 a)), v.av] (.tup [.c (.sl 1 (q0e (encP s.nodes a v))), .c (.v (.int .i64 0))]) := by
 have hC := z3w s hs v hv hlg hd a hr hl
 generalize encP s.nodes a v = E at hC ⊢
 rw [ST.av_eq, VT.av_eq] at hC ⊢
 have hC := Told.co hC (.cons (.same _) (.cons (.same _) (.cons (.same _) (.cons (.nil 1) .nil))))
 refine VC.toldP ent_31 Tryz.func31 rfl Tryz.ntmps31 fun hb => ?_
 clear hb
 refine q0c (And.intro @q23 (And.intro @q26 (And.intro @q27 (And.intro @q1b (And.intro @q1n @q1i))))) ?_
 refine q06 (@q02) (hC) ?_
 refine q0b ?_
 refine retX Tryz.results31 ?_
 exact ⟨.c _, .c _⟩

theorem z26 (s : ST) (a : Int) (b : List UInt8) : (∃ e, e ≠ 0 ∧ q4i s a b = (v0, e)) ∨
  (∃ v, q4i s a b = (v, 0) ∧ 0 ≤ a ∧ a < (s.nodes.length : Int) ∧ q1s s = true ∧ decM s.nodes 20 a b 0 = .ok (v, b.length)) := by
 unfold q4i
 by_cases hc : a < 0 ∨ (s.nodes.length : Int) ≤ a ∨ q1s s = false
 · rw [j1v (hc.elim .inl fun h => h.elim (fun h => .inr (.inl h)) fun h => .inr (.inr (.inr (.inr h))))]
   exact .inl ⟨2, by decide, by simp⟩
 · have h1 := j2m (s := s) (a := a) (B := b) (p := 0) (by
    rintro (h | h | h | h | h)
    · exact hc (.inl h)
    · exact hc (.inr (.inl h))
    · omega
    · omega
    · exact hc (.inr (.inr h)))
   rw [h1, show ((0 : Int)).toNat = 0 from rfl]
   cases hd : decM s.nodes 20 a b 0 with
   | error e =>
     have := (q66 s.nodes 20 a).ers hd
     exact .inl ⟨e, this, by simp [this]⟩
   | ok r =>
     obtain ⟨v, q⟩ := r
     have hq := (q66 s.nodes 20 a).fwd (Nat.zero_le _) hd
     simp only [ne_eq, not_true_eq_false, if_false]
     by_cases hlt : (q : Int) < (b.length : Int)
     · rw [if_pos hlt]
       exact .inl ⟨12, by decide, rfl⟩
     · rw [if_neg hlt]
       obtain rfl : q = b.length := by omega
       refine .inr ⟨v, rfl, ?_, ?_, ?_, rfl⟩
       · exact Int.not_lt.1 fun h => hc (.inl h)
       · exact Int.not_le.1 fun h => hc (.inr (.inl h))
       · cases h : q1s s with
         | true => rfl
         | false => exact absurd (.inr (.inr h)) hc
theorem dall_rest {s : ST} {a : Int} {b : List UInt8} {v : VT} (h1 : 0 ≤ a) (h2 : a < (s.nodes.length : Int)) (h3 : q1s s = true) (hd : decM s.nodes 20 a b 0 = .ok (v, b.length)) (c : UInt8) : q4i s a (b ++ [c]) = (v0, 12) := by
 unfold q4i
 rw [j2m (by rw [h3]; simp; omega), show ((0 : Int)).toNat = 0 from rfl, (q66 s.nodes 20 a).more [c] (Nat.zero_le _) (by rw [hd]; simp), hd]
 simp only [ne_eq, not_true_eq_false, if_false]
 rw [if_pos (by simp only [List.length_append, List.length_singleton]; omega)]
theorem z27 {s : ST} {a : Int} {b : List UInt8} {v : VT} (h1 : 0 ≤ a) (h2 : a < (s.nodes.length : Int)) (h3 : q1s s = true) (hd : decM s.nodes 20 a b 0 = .ok (v, b.length)) (hb : b.length ≠ 0) : q4i s a (b.take (b.length - 1)) = (v0, 10) := by
 unfold q4i
 rw [j2m (by rw [h3]; simp; omega), show ((0 : Int)).toNat = 0 from rfl]
 have key : decM s.nodes 20 a (b.take (b.length - 1)) 0 = .error 10 := by
  refine Classical.byContradiction fun h => ?_
  have h4 := (q66 s.nodes 20 a).more (b.drop (b.length - 1)) (Nat.zero_le _) h
  rw [List.take_append_drop, hd] at h4
  have h5 := (q66 s.nodes 20 a).fwd (Nat.zero_le _) h4.symm
  rw [List.length_take] at h5
  omega
 rw [key]
 simp
theorem done_told (s : ST) (a : Int) (b : List UInt8) (c : UInt8) :
  Told Tryz.prog 7 [s.av, .c (.v (.int .i64 a)), .c (.sl 1 (q0e b)), .c (.v (.int .u8 (c.toNat : Int)))] (.c (.v (.bool true))) := by
 have hS := z5u s
 have hbb := q5f b
 rw [ST.av_eq] at hS ⊢
 by_cases hs : 2500 < q6d s
 · have e1 : decide (2500 < (q6d s : Int)) = true := by simp; omega
   rw [e1] at hS
   refine VC.toldP j1k Tryz.func7 rfl Tryz.ntmps7 fun hb => ?_
   clear hb
   refine q0b ?_
   refine q0j (j1y) ?_
   refine q0a (And.intro @q23 (And.intro @q26 @q27)) ?_
   refine q06 (@q02) (hS) ?_
   refine q0m ?_
   refine retX Tryz.results7 ?_
   exact .c _
 have e1 : decide (2500 < (q6d s : Int)) = false := by simp; omega
 rw [e1] at hS
 by_cases hb1 : 1000 < b.length
 · have e2 : decide ((b.length : Int) > 1000) = true := by simp; omega
   refine VC.toldP j1k Tryz.func7 rfl Tryz.ntmps7 fun hb => ?_
   clear hb
   refine q0b ?_
   refine q0j (j1y) ?_
   refine q0a (And.intro @q23 (And.intro @q26 @q27)) ?_
   refine q06 (@q02) (hS) ?_
   refine q0a (And.intro hbb e2) ?_
   refine retX Tryz.results7 ?_
   exact .c _
 have e2 : decide ((b.length : Int) > 1000) = false := by simp; omega
 have hsm := ssm_le' (sbulk_sm (s := s) (by omega))
 have hdp := z5s (s := s) (by omega)
 obtain ⟨m1, hM1⟩ := much_told s hsm hdp a b (by omega) 0
 rw [ST.av_eq] at hM1
 cases m1 with
 | true =>
   refine VC.toldP j1k Tryz.func7 rfl Tryz.ntmps7 fun hb => ?_
   clear hb
   refine q0b ?_
   refine q0j (j1y) ?_
   refine q0a (And.intro @q23 (And.intro @q26 @q27)) ?_
   refine q06 (@q02) (hS) ?_
   refine q0a (And.intro hbb (And.intro e2 (And.intro @q23 (And.intro @q26 @q27)))) ?_
   refine q06 (@q02) (hM1) ?_
   refine q0m ?_
   refine retX Tryz.results7 ?_
   exact .c _
 | false =>
 have hA := j1f s hsm a b (by omega)
 rcases z26 s a b with ⟨e, he, ho⟩ | ⟨v, ho, h1, h2, h3, hd⟩
 · rw [ho] at hA
   have hW := j7b _ v0 v0 (Nat.le_refl _)
   rw [j14, VT.av_eq] at hW
   have hW := Told.co (args := [.agg (v0.cells.map .c), .agg [.c (.v (.int .i64 0)), .c (.v (.int .i64 0)), .c (.v (.int .u64 0)), .c (.v (.slice none 0 0)), .c (.v (.slice none 0 0)), .c (.v (.slice none 0 0))]]) hW (.cons (.same _) (.cons (by
    rw [v0, q03]
    exact Co.aggL (.cons (.same _) (.cons (.same _) (.cons (.same _) (.cons (.nil 1) (.cons (.nil 6) (.cons (.nil 1) .nil))))))) .nil))
   have e3 : (e != 0) = true := by simpa using he
   rw [ST.av_eq, VT.av_eq] at hA
   refine VC.toldP j1k Tryz.func7 rfl Tryz.ntmps7 fun hb => ?_
   clear hb
   refine q0b ?_
   refine q0j (j1y) ?_
   refine q0a (And.intro @q23 (And.intro @q26 @q27)) ?_
   refine q06 (@q02) (hS) ?_
   refine q0a (And.intro hbb (And.intro e2 (And.intro @q23 (And.intro @q26 @q27)))) ?_
   refine q06 (@q02) (hM1) ?_
   refine q0a (And.intro @q23 (And.intro @q26 @q27)) ?_
   refine q06 (@q02) (hA) ?_
   refine q0a (And.intro e3 (And.intro @q1b (And.intro @q1n @q1i))) ?_
   refine q06 (@q02) (hW) ?_
   refine q0m ?_
   refine retX Tryz.results7 ?_
   exact .c _
 rw [ho] at hA
 obtain ⟨⟨f1, f2, f3, f4, f5⟩, f6⟩ := dec_ok h3 20 a b 0 _ v h1 h2 (Nat.zero_le _) hd
 have hc := conM_of h1 h2 h3 f1
 have hP := z3x s hsm v f5 f4 f2 a hc (by omega)
 have hBk := dec_plain h3 _ v (Nat.le_refl _) 20 a h1 f1 f2 f3 f4 (by omega) f5 0
 have hAl := j1f s hsm a (encP s.nodes a v) (by omega)
 rw [show q4i s a (encP s.nodes a v) = (v, 0) from dall_back h1 h2 h3 hBk] at hAl
 clear hBk
 generalize encP s.nodes a v = E at hP hAl f6
 have hRe := j1f s hsm a (b ++ [c]) (by simp only [List.length_append, List.length_singleton]; omega)
 rw [dall_rest h1 h2 h3 hd] at hRe
 have hCo := z1j s hsm v f5 a
 rw [hc] at hCo
 have hDe := z1l _ v (Nat.le_refl _) (by omega) f5
 have hW := j7b _ v v (Nat.le_refl _)
 rw [j14] at hW
 simp only [ST.av_eq, VT.av_eq] at hA hP hAl hRe hCo hDe hW
 have e12 : ((12 : Int) != 12) = false := by decide
 have e00 : ((0 : Int) != 0) = false := by decide
 have e4 : decide ((q2l v : Int) > 20) = false := by simp; omega
 have hall : (q0e b).map (fun e => e.map AV.c) ++ [[AV.c (.v (.int .u8 (c.toNat : Int)))]] = (q0e (b ++ [c])).map fun e => e.map AV.c := by simp [q0e]
 by_cases hb0 : b.length = 0
 · have e5 : ((b.length : Int) == 0) = true := by simpa using hb0
   refine VC.toldP j1k Tryz.func7 rfl Tryz.ntmps7 fun hb => ?_
   clear hb
   refine q0b ?_
   refine q0j (j1y) ?_
   refine q0a (And.intro @q23 (And.intro @q26 @q27)) ?_
   refine q06 (@q02) (hS) ?_
   refine q0a (And.intro hbb (And.intro e2 (And.intro @q23 (And.intro @q26 @q27)))) ?_
   refine q06 (@q02) (hM1) ?_
   refine q0a (And.intro @q23 (And.intro @q26 @q27)) ?_
   refine q06 (@q02) (hA) ?_
   refine q0a (And.intro @q23 (And.intro @q26 (And.intro @q27 (And.intro @q1b (And.intro @q1n @q1i))))) ?_
   refine q06 (@q02) (hP) ?_
   refine q0a (And.intro @q23 (And.intro @q26 (And.intro @q27 (And.intro @q1b (And.intro @q1n @q1i))))) ?_
   refine q06 (@q02) (hAl) ?_
   refine q0a (And.intro hbb (And.intro @lAppL (And.intro @q23 (And.intro @q26 (And.intro @q27 (And.intro @q1b (And.intro @q1n @q1i))))))) ?_
   refine AO.stepJw rfl (J_callZ _ _ _ _ 400 (b.length + 1) _ (q0e (b ++ [c])) [.agg (s.cells.map .c), .c (.v (.int .i64 a))] [] rfl (by simp [okx, putd, upd, AV.okb]) rfl rfl ?_ ?_ rfl ?_ hRe) ?_
   · simp [Blkd.len, hbb]
   · exact hall
   · simp [AV.pureL, AV.pureB, q02]
   refine q0a (And.intro hbb (And.intro e12 (And.intro @q23 (And.intro @q26 (And.intro @q27 (And.intro @q1b (And.intro @q1n @q1i))))))) ?_
   refine q06 (@q02) (hCo) ?_
   refine q0a (And.intro @q1b (And.intro @q1n @q1i)) ?_
   refine q06 (@q02) (hDe) ?_
   refine q0a (And.intro e4 (And.intro e00 (And.intro @q1b (And.intro @q1n @q1i)))) ?_
   refine q06 (@q02) (hW) ?_
   refine q0a (And.intro hbb e5) ?_
   refine retX Tryz.results7 ?_
   exact .c _
 · have e5 : ((b.length : Int) == 0) = false := by simpa using hb0
   have hSh := j1f s hsm a (b.take (b.length - 1)) (by rw [List.length_take]; omega)
   rw [z27 h1 h2 h3 hd hb0] at hSh
   simp only [ST.av_eq, VT.av_eq] at hSh
   have hw : IntKind.i64.wrap ((b.length : Int) - 1) = ((b.length - 1 : Nat) : Int) := by rw [q0f (by omega) (by omega)]; omega
   have e1010 : ((10 : Int) == 10) = true := by decide
   have htk : (q0e b).take (b.length - 1) = q0e (b.take (b.length - 1)) := by simp [q0e, List.map_take]
   refine VC.toldP j1k Tryz.func7 rfl Tryz.ntmps7 fun hb => ?_
   clear hb
   refine q0b ?_
   refine q0j (j1y) ?_
   refine q0a (And.intro @q23 (And.intro @q26 @q27)) ?_
   refine q06 (@q02) (hS) ?_
   refine q0a (And.intro hbb (And.intro e2 (And.intro @q23 (And.intro @q26 @q27)))) ?_
   refine q06 (@q02) (hM1) ?_
   refine q0a (And.intro @q23 (And.intro @q26 @q27)) ?_
   refine q06 (@q02) (hA) ?_
   refine q0a (And.intro @q23 (And.intro @q26 (And.intro @q27 (And.intro @q1b (And.intro @q1n @q1i))))) ?_
   refine q06 (@q02) (hP) ?_
   refine q0a (And.intro @q23 (And.intro @q26 (And.intro @q27 (And.intro @q1b (And.intro @q1n @q1i))))) ?_
   refine q06 (@q02) (hAl) ?_
   refine q0a (And.intro hbb (And.intro @lAppL (And.intro @q23 (And.intro @q26 (And.intro @q27 (And.intro @q1b (And.intro @q1n @q1i))))))) ?_
   refine AO.stepJw rfl (J_callZ _ _ _ _ 400 (b.length + 1) _ (q0e (b ++ [c])) [.agg (s.cells.map .c), .c (.v (.int .i64 a))] [] rfl (by simp [okx, putd, upd, AV.okb]) rfl rfl ?_ ?_ rfl ?_ hRe) ?_
   · simp [Blkd.len, hbb]
   · exact hall
   · simp [AV.pureL, AV.pureB, q02]
   refine q0a (And.intro hbb (And.intro e12 (And.intro @q23 (And.intro @q26 (And.intro @q27 (And.intro @q1b (And.intro @q1n @q1i))))))) ?_
   refine q06 (@q02) (hCo) ?_
   refine q0a (And.intro @q1b (And.intro @q1n @q1i)) ?_
   refine q06 (@q02) (hDe) ?_
   refine q0a (And.intro e4 (And.intro e00 (And.intro @q1b (And.intro @q1n @q1i)))) ?_
   refine q06 (@q02) (hW) ?_
   refine q0a (And.intro hbb (And.intro e5 (And.intro hw (And.intro htk (And.intro @q23 (And.intro @q26 @q27)))))) ?_
   refine q06 (@q02) (hSh) ?_
   refine q0a (And.intro e1010 (And.intro @q1b (And.intro @q1n @q1i))) ?_
   refine retX Tryz.results7 ?_
   exact .c _

theorem arg_bytes {x : AV} (h : TyAV Tryz.prog 40 x) : ∃ l : List UInt8, x = .c (.sl 1 (q0e l)) := by
 obtain ⟨ps, h1, h2⟩ := h
 obtain ⟨l, rfl⟩ := ty_bytes h1
 rcases h2 with ⟨⟨fs, h2⟩, _⟩ | ⟨_, q, h2, rfl⟩
 · simp [Tryz.underlying40] at h2
 · simp at h2
   subst h2
   exact ⟨l, rfl⟩
theorem arg_byte {x : AV} (h : TyAV Tryz.prog 5 x) : ∃ c : UInt8, x = .c (.v (.int .u8 (c.toNat : Int))) := by
 obtain ⟨ps, h1, h2⟩ := h
 obtain ⟨n, rfl, hw⟩ := q6g h1 Tryz.underlying5
 rcases h2 with ⟨⟨fs, h2⟩, _⟩ | ⟨_, q, h2, rfl⟩
 · simp [Tryz.underlying5] at h2
 · simp at h2
   subst h2
   simp [Lit.wf, IntKind.min, IntKind.max, IntKind.signed, IntKind.bits] at hw
   refine ⟨n.toNat.toUInt8, ?_⟩
   have : ((n.toNat.toUInt8).toNat : Int) = n := by simp; omega
   rw [this]
section

theorem gWords : Tryz.prog.globalNamed "avocet/naming.words" = some 0 := by kernel_rfl
theorem tWords : (Tryz.prog.globals[0]?).map (·.type) = some 186 := by kernel_rfl
theorem uWords : Tryz.prog.underlying 186 = some (.array 15 9) := by kernel_rfl
theorem cWords : Tryz.prog.cellsOf 9 = 1 := by kernel_rfl
theorem onlyWords : ((List.range Tryz.prog.globals.size).all fun g => g == 0 || (glob Tryz.prog g).isNone) = true := by kernel_rfl
theorem globWords : glob Tryz.prog 0 = some (q3s.map fun w => PV.v (.string (str w))) := by kernel_rfl
theorem z61 {W : World} (h : laidMetH Tryz.prog [("avocet/naming.words", Rows.laid_avocet_naming_words)] W) :
  ∃ cs : Array Value, (∀ i, W.cell? ⟨0, i, none⟩ = cs[i]?) ∧ cs.size = 15 ∧ ∀ (i : Nat) (w : List UInt8), q3s[i]? = some w → cs[i]? = some (.string (str w)) := by
 rw [MakeChecks.laidMetH_plain _ _ _ (by kernel_rfl)] at h
 obtain ⟨ps, ⟨g0, t0, cs0, f0, p0, q0, hg0, ht0, hv0, hd0, _, _⟩, _, _⟩ := h
 obtain rfl := Option.some.inj (gWords.symm.trans hg0)
 obtain rfl := Option.some.inj (tWords.symm.trans ht0)
 obtain ⟨xs, m1, rfl, hx1, hlen, hn15, hel⟩ := DataW.trod_array uWords hd0
 simp only [Rows.laid_avocet_naming_words, Prod.mk.injEq, DataW.agg.injEq] at hx1
 have hx2 : q3s.map (fun w => (DataW.lit (.string w) : DataW Unit)) = xs.map (·.1) := hx1.1
 have hat : ∀ i, i < 15 → ∃ s : ByteArray, cs0[i]? = some (.string s) ∧ ∃ x, xs[i]? = some x ∧ x.1 = .lit (.string s.data.toList) := by
  intro i hi
  obtain ⟨x, hx⟩ : ∃ x, xs[i]? = some x := ⟨xs[i]'(by omega), List.getElem?_eq_getElem (by omega)⟩
  have h1 := hel i hi
  rw [hx] at h1
  obtain ⟨s, e1, e2, _⟩ := DataW.trod_string Tryz.underlying9 h1
  rw [cWords, Nat.mul_one] at e1
  refine ⟨s, ?_, x, hx, by rw [e2]⟩
  have h2 : (cs0.toList.drop i)[0]? = some (.string s) := by
   have h3 : ((cs0.toList.drop i).take 1)[0]? = some (.string s) := by rw [e1]; rfl
   rwa [List.getElem?_take_of_lt (by decide)] at h3
  rw [List.getElem?_drop, Nat.add_zero] at h2
  simpa using h2
 refine ⟨cs0, fun i => World.var?_cell hg0 hv0 i, ?_, fun i w hw => ?_⟩
 · have := hlen
   rw [show Tryz.prog.cellsOf 186 = 15 by kernel_rfl] at this
   simpa using this
 · have hi : i < 15 := (List.getElem?_eq_some_iff.1 hw).1
   obtain ⟨s, h1, x, h2, h3⟩ := hat i hi
   have h4 : (xs.map (·.1))[i]? = some (.lit (.string w)) := by rw [← hx2, List.getElem?_map, hw]; rfl
   rw [List.getElem?_map, h2] at h4
   have h5 : x.1 = .lit (.string w) := Option.some.inj h4
   rw [h3] at h5
   have h6 : s.data.toList = w := Lit.string.inj (DataW.lit.inj h5)
   have h7 : s = str w := by
    apply ByteArray.ext
    rw [← h6]
    show s.data = s.data.toList.toArray
    exact (Array.toArray_toList).symm
   rw [h1, h7]
theorem gok_words {W : World} (h : laidMetH Tryz.prog [("avocet/naming.words", Rows.laid_avocet_naming_words)] W) : GOk Tryz.prog W (fun k => k < W.heap.size) := by
 obtain ⟨cs, h1, h2, h3⟩ := z61 h
 intro g cells hc
 have hg : g = 0 := by
  by_cases hlt : g < Tryz.prog.globals.size
  · have := List.all_eq_true.1 onlyWords g (List.mem_range.2 hlt)
    rw [hc] at this
    simpa using this
  · unfold glob at hc
    rw [Array.getElem?_eq_none (by omega)] at hc
    simp at hc
 subst hg
 rw [globWords] at hc
 obtain rfl := Option.some.inj hc
 refine ⟨?_, cs.toList, fun j hj => ?_, ⟨by simp [h2, q3s], fun j p v hp hv => ?_⟩⟩
 · have h4 := h1 0
   rw [h3 0 [] rfl] at h4
   by_cases hlt : 0 < W.heap.size
   · exact hlt
   · unfold World.cell? at h4
     simp only [] at h4
     rw [Array.getElem?_eq_none (by omega)] at h4
     simp at h4
 · rw [Nat.zero_add, h1 j]
   simp
 · rw [List.getElem?_map] at hp
   cases hw : q3s[j]? with
   | none => rw [hw] at hp; simp at hp
   | some w =>
     rw [hw] at hp
     obtain rfl := Option.some.inj hp
     have h5 := h3 j w hw
     rw [Array.getElem?_toList] at hv
     rw [h5] at hv
     obtain rfl := Option.some.inj hv
     exact .v rfl
section
variable {P : Program} {w : World}
theorem law_toldG (hg : GOk P w (fun k => k < w.heap.size)) {f : FuncId} {args : List AV} (hT : Told P f args (.c (.v (.bool true)))) {vs : List Value} (hl : vs.length = args.length) (hr : ∀ (j : Nat) (x : AV) (v : Value), args[j]? = some x → vs[j]? = some v → Rep w (fun b => b < w.heap.size) φ0 h0 x v) :
  Calls P f vs.toArray w fun e W' => e = .returned (.bool true) ∧ Below w.heap.size w W' := by
 refine (hT.2 w (fun k => k < w.heap.size) vs (fun _ h => h) hg ⟨hl, hr⟩).mono ?_
 rintro e W' ⟨v, ro', rfl, hb, _, _, hr, _⟩
 obtain rfl := q10 hr
 exact ⟨rfl, hb⟩
end
end
end
end Go.Proofs.YtepneflbhpidbaaGreatDoor
