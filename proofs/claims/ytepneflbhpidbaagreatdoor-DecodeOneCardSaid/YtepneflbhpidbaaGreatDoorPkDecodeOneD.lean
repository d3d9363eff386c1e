/- Texts that lead to the law DecodeOne, joined. -/
import Derived.Test.YtepneflbhpidbaaGreatDoorPkDecodeOneC
import Derived.Test.YtepneflbhpidbaaGreatDoorPkDecodeOneA
import Derived.Test.YtepneflbhpidbaaGreatDoorPkDecodeOneB
import Derived.Test.YtepneflbhpidbaaGreatDoorPkDecodeOneXAbB
import Derived.ProofKit
import Derived.OpenShut
import Derived.ChangeOld
import Derived.Below
namespace Go.Proofs.YtepneflbhpidbaaGreatDoor
set_option maxRecDepth 100000
set_option maxHeartbeats 6400000
open Go.RowKit
set_option linter.unusedVariables false
set_option linter.unusedSimpArgs false
section
attribute [local go_sem] opx opE ev okx q5h bnd okO AV.get AV.okb cAV q6y q8g q8f j0t j0s q79 q78 st q7s q5r q7u q7v q7t binV binI binS q42 q5o q5i q5p unV q6h q4h q3v q04 q2j Blkd.len setE grown q1r q45 q3w q4o pv q4j q30 q39 AV.cellish AV.pureL AV.pureB q77 q71 AV.ren AV.renL q8i Blkd.ren rho wrM renN q3t rhoE q4s q44 q7f q4y q6v q51 j0h j0i j0l q5l q8o q8w q8x q8z q83 q9a q9b q9f q9l q9n q9p q7g q9q q7h q50 q7i q7j j0b q6t q7k j0c q6e j0d q6u j0e q6f q7l j0f q7m j0g j0j j0k j0m j0n j0o j0p j0q q8p q8q q8r q8s q8t q8u q8v q8y q80 q81 q82 q84 q85 q86 q87 q88 q89 q9c q9d q9e q9g q9h q9i q9j q9k q9m q9o q9r q9s q9t q9u q9v q9w q9x q9y q9z q90 q91 q92 q93 q94 q95 q96 q97 q98 q99 j0a Option.map_some Option.map_none Option.getD_some Option.getD_none Option.bind_some Option.bind_none List.getElem?_cons_zero List.getElem?_cons_succ List.getElem?_nil List.getElem?_toArray List.length_cons List.length_nil List.length_map List.forall_mem_map List.map_cons List.map_nil List.drop_zero List.drop_succ_cons List.drop_nil List.take_zero List.take_succ_cons List.take_nil List.mem_cons List.not_mem_nil or_false forall_eq_or_imp forall_eq List.set_cons_zero List.set_cons_succ List.cons_append List.nil_append List.append_nil List.foldl_cons List.foldl_nil List.replicate_succ List.replicate_zero List.all_cons List.all_nil if_true if_false Bool.false_eq_true ne_eq not_false_eq_true not_true_eq_false true_and and_true and_self true_implies imp_self implies_true forall_const beq_self_eq_true Bool.and_true Bool.true_and Bool.and_false Bool.false_and Bool.or_true Bool.true_or Bool.or_false Bool.false_or Bool.not_true Bool.not_false Bool.not_eq_eq_eq_not q6a Value.oneCell' Int.toNat_natCast beq_true beq_false Bool.not_eq_true false_implies false_or true_or or_true Nat.zero_add Nat.add_zero decide_true decide_false Int.cast_ofNat_Int Int.toNat_zero Int.toNat_one eq_self

mutual
def VT.lng : VT → Prop
 | .mk k n b s xs ks => (-9223372036854775808 ≤ n ∧ n ≤ 9223372036854775807) ∧ VT.lngL xs
def VT.lngL : List VT → Prop
 | [] => True
 | x :: xs => x.lng ∧ VT.lngL xs
end
theorem j69 : ∀ {xs : List VT}, VT.lngL xs → ∀ x ∈ xs, x.lng
 | x :: xs, h, y, hy => by
   rcases List.mem_cons.1 hy with rfl | hy
   · exact h.1
   · exact j69 h.2 y hy
theorem j7a : ∀ {xs : List VT}, (∀ x ∈ xs, x.lng) → VT.lngL xs
 | [], _ => trivial
 | x :: xs, h => ⟨h x (by simp), j7a fun y hy => h y (by simp [hy])⟩
theorem j3r {ns : List NT} {a : Int} {nd : NT} (hn : ns[a.toNat]? = some nd) {k n b : Int} {t : List UInt8} {xs : List VT} {ks : List (List UInt8)} (hv : isM ns a (.mk k n b t xs ks) = true) :
  k = nd.kind ∧ q2y k n b t xs.length ks = true ∧ t.length ≤ 20000 ∧ (nd.kind = 9 → xs.length = nd.fields.length) ∧ (nd.kind = 12 → ks.length = xs.length) ∧ (nd.kind = 13 → 0 ≤ n ∧ n < (nd.branches.length : Int) ∧ xs.length = 1) ∧ (nd.kind = 14 → (t.length : Int) = nd.size) ∧ (nd.kind = 2 → n = 0 ∨ n = 1) ∧ (nd.kind = 5 → b < 4294967296) := by
 rw [q67 hn, Bool.and_eq_true] at hv
 obtain ⟨hh, _⟩ := hv
 unfold q3a at hh
 simp only [Bool.and_eq_true, beq_iff_eq, decide_eq_true_eq] at hh
 obtain ⟨⟨hk, hvb, ht⟩, hr⟩ := hh
 refine ⟨hk, hvb, ht, fun h => ?_, fun h => ?_, fun h => ?_, fun h => ?_, fun h => ?_, fun h => ?_⟩
 · rw [hk, h] at hr
   simp at hr
   exact hr.1
 · rw [hk, h] at hr
   simp at hr
   exact hr.1.1
 · rw [hk, h] at hr
   simp at hr
   exact hr
 · rw [hk, h] at hr
   simp at hr
   exact hr
 · rw [hk, h] at hr
   simp at hr
   exact hr
 · rw [hk, h] at hr
   simp at hr
   exact hr
theorem put_told (s : ST) (hr : q1s s = true) (hln : s.nodes.length ≤ 1000000) (r : Int) (cuts : List Int) (hcr : ∀ n ∈ cuts, -9223372036854775808 ≤ n ∧ n ≤ 9223372036854775807) (hcl : cuts.length ≤ 1000000000) : ∀ (z : Nat) (v : VT), SizeOf.sizeOf v ≤ z → v.sm 1000000 → v.lng → ∀ (a : Int), 0 ≤ a → a < (s.nodes.length : Int) → isM s.nodes a v = true →
  ∀ (l : List UInt8) (c : Nat), (l ++ (encM s.nodes cuts a v c).1).length ≤ 90000000 → (encM s.nodes cuts a v c).2 ≤ 900000000 →
   ToldM Tryz.prog 121 [.ref 1000000 1 0 0, .row 1000001 l.length, .c (.v (.int .i64 a)), v.av] [xE s.nodes r cuts c, bB l] [some (xE s.nodes r cuts (encM s.nodes cuts a v c).2), some (bB (l ++ (encM s.nodes cuts a v c).1))] (.row 1000001 (l ++ (encM s.nodes cuts a v c).1).length) := by
 intro z
 induction z with
 | zero => intro v hv; cases v; simp at hv
 | succ z ih =>
 intro v hv hsm hlg a ha0 ha hm l c hO1 hC1
 cases v with
 | mk k n b t xs ks =>
 obtain ⟨p, rfl⟩ : ∃ p : Nat, a = (p : Int) := ⟨a.toNat, by omega⟩
 obtain ⟨nd, hnd⟩ : ∃ nd, s.nodes[p]? = some nd := ⟨s.nodes[p]'(by omega), List.getElem?_eq_getElem (by omega)⟩
 have hnp : (s.nodes.map NT.cells)[p]? = some nd.cells := by rw [List.getElem?_map, hnd]; rfl
 have hnd' : s.nodes[((p : Int)).toNat]? = some nd := by rw [Int.toNat_natCast]; exact hnd
 obtain ⟨⟨hb0, hb1⟩, hs1, hs2, hs3, hs4, hs5⟩ := hsm
 obtain ⟨⟨hg0, hg1⟩, hg2⟩ := hlg
 obtain ⟨rfl, hvb, ht2, p9, p12, p13, p14, p2, p5⟩ := j3r hnd' hm
 have hit : ∀ (i : Nat) (x : VT), xs[i]? = some x → ∀ (l : List UInt8) (c : Nat), (l ++ (encM s.nodes cuts (q08 nd n i) x c).1).length ≤ 90000000 → (encM s.nodes cuts (q08 nd n i) x c).2 ≤ 900000000 →
   ToldM Tryz.prog 121 [.ref 1000000 1 0 0, .row 1000001 l.length, .c (.v (.int .i64 (q08 nd n i))), x.av] [xE s.nodes r cuts c, bB l] [some (xE s.nodes r cuts (encM s.nodes cuts (q08 nd n i) x c).2), some (bB (l ++ (encM s.nodes cuts (q08 nd n i) x c).1))] (.row 1000001 (l ++ (encM s.nodes cuts (q08 nd n i) x c).1).length) := fun i x hx l c h1 h2 => by
  have hI := item_in hr hnd' hm hx
  exact ih x (by
   have h3 := List.sizeOf_lt_of_mem (List.mem_of_getElem? hx)
   simp at hv
   omega) (j2q hs5 x (List.mem_of_getElem? hx)) (j69 hg2 x (List.mem_of_getElem? hx)) _ hI.2.1 hI.2.2.1 hI.1 l c h1 h2
 clear ih
 obtain ⟨E, hE⟩ : ∃ E, E = encM s.nodes cuts (p : Int) (.mk nd.kind n b t xs ks) c := ⟨_, rfl⟩
 rw [← hE] at hO1 hC1 ⊢
 rw [encM, hnd'] at hE
 simp only [] at hE
 obtain ⟨O, hO⟩ : ∃ O, O = l ++ E.1 := ⟨_, rfl⟩
 rw [← hO] at hO1 ⊢
 rw [VT.av_eq, q03]
 have hll : l.length ≤ 90000000 := by rw [hO] at hO1; simp at hO1; omega
 unfold bB xE at hit ⊢
 refine VC.toldXF (And.intro @q0k @q3e) ent_121 [] Tryz.func121 rfl Tryz.ntmps121 fun hb hbL => ?_
 clear hb hbL
 refine walkRF (hnp) ?_
 refine walkRF (And.intro hnp @q0d) ?_
 refine VC.frz [8, 88] [(1, .row 1000001 l.length), (4, .ref 0 1 0 0), (7, .pp (VT.mk nd.kind n b t xs ks).cells), (9, .pp nd.cells)] [(0, ⟨false, 168, 1, [[.ref 1000000 1 0 0]]⟩), (1000001, ⟨true, 5, 1, bA l⟩), (1000000, ⟨false, 170, 4, [[.c (.sl 10 (s.nodes.map NT.cells)), .c (.v (.int .i64 r)), .c (.sl 1 (cuts.map iPV)), .c (.v (.int .i64 (c : Int)))]]⟩)] 800 ?_ ?_
 · refine q5c (And.intro @q0k (And.intro @q3e (And.intro @q03 @q0d))) ?_
   exact ⟨⟨.same _, .same _, .ref (es := [.v (.int .i64 nd.kind), .v (.int .i64 n), .v (.int .u64 b), .sl 1 (q0e t), .sl 6 (xs.map VT.cells), .sl 1 (ks.map sPV)]) (by simp) rfl rfl rfl rfl, .ref (es := nd.cells) (by simp) rfl rfl rfl rfl⟩, ⟨.same _, .same _, .same _⟩, Nat.le_refl _⟩
 by_cases h2 : nd.kind = 2
 · have e2 : (nd.kind == 2) = true := by simpa using h2
   obtain rfl : E = ([if n = 0 then 0 else 1], c) := by
    rw [hE, if_neg (by omega), if_neg (by omega), if_neg (by omega), if_neg (by omega), q2k]
    simp [h2]
   simp only [] at hO
   have hV := z4j l n (by omega)
   rw [← hO] at hV
   unfold bB at hV
   refine q0a (And.intro @q03 (And.intro @q0d (And.intro @q0k e2))) ?_
   refine q01 (And.intro @q0k @q00) [1000001] (hV) ?_
   refine q0a (And.intro @q0k @q00) ?_
   refine q16 (And.intro @q00 @q0k) Tryz.results121 ?_
   exact .keepW rfl
 have e2 : (nd.kind == 2) = false := by simpa using h2
 by_cases h3 : nd.kind = 3
 · have e3 : (nd.kind == 3) = true := by simpa using h3
   obtain rfl : E = (vput n, c) := by
    rw [hE, if_neg (by omega), if_neg (by omega), if_neg (by omega), if_neg (by omega), q2k]
    simp [h3]
   simp only [] at hO
   have hV := q7n l n (by omega) hg0 hg1
   rw [← hO] at hV
   unfold bB at hV
   refine q0a (And.intro @q03 (And.intro @q0d (And.intro @q0k (And.intro e2 e3)))) ?_
   refine q01 (And.intro @q0k @q00) [1000001] (hV) ?_
   refine q0a (And.intro @q0k @q00) ?_
   refine q16 (And.intro @q00 @q0k) Tryz.results121 ?_
   exact .keepW rfl
 have e3 : (nd.kind == 3) = false := by simpa using h3
 by_cases h4 : nd.kind = 4
 · have e4 : (nd.kind == 4) = true := by simpa using h4
   obtain rfl : E = (vput n, c) := by
    rw [hE, if_neg (by omega), if_neg (by omega), if_neg (by omega), if_neg (by omega), q2k]
    simp [h4]
   simp only [] at hO
   have hV := q7n l n (by omega) hg0 hg1
   rw [← hO] at hV
   unfold bB at hV
   refine q0a (And.intro @q03 (And.intro @q0d (And.intro @q0k (And.intro e2 (And.intro e3 e4))))) ?_
   refine q01 (And.intro @q0k @q00) [1000001] (hV) ?_
   refine q0a (And.intro @q0k @q00) ?_
   refine q16 (And.intro @q00 @q0k) Tryz.results121 ?_
   exact .keepW rfl
 have e4 : (nd.kind == 4) = false := by simpa using h4
 by_cases h10 : nd.kind = 10
 · have e10 : (nd.kind == 10) = true := by simpa using h10
   obtain rfl : E = (vput n, c) := by
    rw [hE, if_neg (by omega), if_neg (by omega), if_neg (by omega), if_neg (by omega), q2k]
    simp [h10]
   simp only [] at hO
   have hV := q7n l n (by omega) hg0 hg1
   rw [← hO] at hV
   unfold bB at hV
   refine q0a (And.intro @q03 (And.intro @q0d (And.intro @q0k (And.intro e2 (And.intro e3 (And.intro e4 e10)))))) ?_
   refine q01 (And.intro @q0k @q00) [1000001] (hV) ?_
   refine q0a (And.intro @q0k @q00) ?_
   refine q16 (And.intro @q00 @q0k) Tryz.results121 ?_
   exact .keepW rfl
 have e10 : (nd.kind == 10) = false := by simpa using h10
 by_cases h5 : nd.kind = 5
 · have e5 : (nd.kind == 5) = true := by simpa using h5
   obtain rfl : E = (q2w b 4, c) := by
    rw [hE, if_neg (by omega), if_neg (by omega), if_neg (by omega), if_neg (by omega), q2k]
    simp [h5]
   simp only [] at hO
   have hV := j9v l b 4 (by omega) hb0 hb1 (by omega)
   rw [← hO] at hV
   unfold bB at hV
   refine q0a (And.intro @q03 (And.intro @q0d (And.intro @q0k (And.intro e2 (And.intro e3 (And.intro e4 (And.intro e10 e5))))))) ?_
   refine q01 (And.intro @q0k @q00) [1000001] (hV) ?_
   refine q0a (And.intro @q0k @q00) ?_
   refine q16 (And.intro @q00 @q0k) Tryz.results121 ?_
   exact .keepW rfl
 have e5 : (nd.kind == 5) = false := by simpa using h5
 by_cases h6 : nd.kind = 6
 · have e6 : (nd.kind == 6) = true := by simpa using h6
   obtain rfl : E = (q2w b 8, c) := by
    rw [hE, if_neg (by omega), if_neg (by omega), if_neg (by omega), if_neg (by omega), q2k]
    simp [h6]
   simp only [] at hO
   have hV := j9v l b 8 (by omega) hb0 hb1 (by omega)
   rw [← hO] at hV
   unfold bB at hV
   refine q0a (And.intro @q03 (And.intro @q0d (And.intro @q0k (And.intro e2 (And.intro e3 (And.intro e4 (And.intro e10 (And.intro e5 e6)))))))) ?_
   refine q01 (And.intro @q0k @q00) [1000001] (hV) ?_
   refine q0a (And.intro @q0k @q00) ?_
   refine q16 (And.intro @q00 @q0k) Tryz.results121 ?_
   exact .keepW rfl
 have e6 : (nd.kind == 6) = false := by simpa using h6
 by_cases h7 : nd.kind = 7
 · have e7 : (nd.kind == 7) = true := by simpa using h7
   obtain rfl : E = (vput (t.length : Int) ++ t, c) := by
    rw [hE, if_neg (by omega), if_neg (by omega), if_neg (by omega), if_neg (by omega), q2k]
    simp [h7]
   simp only [] at hO
   have hV := j6d l t (by omega) (by omega)
   rw [← hO] at hV
   unfold bB at hV
   refine q0a (And.intro @q03 (And.intro @q0d (And.intro @q0k (And.intro e2 (And.intro e3 (And.intro e4 (And.intro e10 (And.intro e5 (And.intro e6 e7))))))))) ?_
   refine q01 (And.intro @q0k @q00) [1000001] (hV) ?_
   refine q0a (And.intro @q0k @q00) ?_
   refine q16 (And.intro @q00 @q0k) Tryz.results121 ?_
   exact .keepW rfl
 have e7 : (nd.kind == 7) = false := by simpa using h7
 by_cases h8 : nd.kind = 8
 · have e8 : (nd.kind == 8) = true := by simpa using h8
   obtain rfl : E = (vput (t.length : Int) ++ t, c) := by
    rw [hE, if_neg (by omega), if_neg (by omega), if_neg (by omega), if_neg (by omega), q2k]
    simp [h8]
   simp only [] at hO
   have hV := j6d l t (by omega) (by omega)
   rw [← hO] at hV
   unfold bB at hV
   refine q0a (And.intro @q03 (And.intro @q0d (And.intro @q0k (And.intro e2 (And.intro e3 (And.intro e4 (And.intro e10 (And.intro e5 (And.intro e6 (And.intro e7 e8)))))))))) ?_
   refine q01 (And.intro @q0k @q00) [1000001] (hV) ?_
   refine q0a (And.intro @q0k @q00) ?_
   refine q16 (And.intro @q00 @q0k) Tryz.results121 ?_
   exact .keepW rfl
 have e8 : (nd.kind == 8) = false := by simpa using h8
 by_cases h14 : nd.kind = 14
 · have e14 : (nd.kind == 14) = true := by simpa using h14
   obtain rfl : E = (t, c) := by
    rw [hE, if_neg (by omega), if_neg (by omega), if_neg (by omega), if_neg (by omega), q2k]
    simp [h14]
   simp only [] at hO
   have hbl : (q0e t).length = t.length := by simp [q0e]
   have hbo : bA l ++ (q0e t).map (fun e => e.map AV.c) = bA O := by rw [hO, ← j2u]; congr 1; exact (j0u t).symm
   have hle : l.length + t.length = O.length := by rw [hO]; simp
   refine q0a (And.intro @q03 (And.intro @q0d (And.intro @q0k (And.intro e2 (And.intro e3 (And.intro e4 (And.intro e10 (And.intro e5 (And.intro e6 (And.intro e7 (And.intro e8 (And.intro e14 (And.intro hbl (And.intro hbo hle)))))))))))))) ?_
   refine q16 (And.intro @q00 @q0k) Tryz.results121 ?_
   exact .keepW rfl
 have e14 : (nd.kind == 14) = false := by simpa using h14
 by_cases h9 : nd.kind = 9
 · have e9 : (nd.kind == 9) = true := by simpa using h9
   have hx9 := p9 h9
   rw [if_pos h9] at hE
   have hia : ∀ j, q08 nd n j = q2u nd j := fun j => by rw [q08, if_pos h9]
   have hat : ∀ (i : Nat) (x : VT), xs[i]? = some x → (q1a s.nodes cuts (fun j => q2u nd j) xs)[i]? = some (encM s.nodes cuts (q2u nd i) x) := fun i x hx => j17 s.nodes cuts xs _ i x hx
   have hup := j16 s.nodes cuts xs (fun j => q2u nd j)
   have hfl := q34 s.nodes cuts xs (fun j => q2u nd j)
   generalize q1a s.nodes cuts (fun j => q2u nd j) xs = fs at hE hat hup hfl
   refine q0a (And.intro @q03 (And.intro @q0d (And.intro @q0k (And.intro e2 (And.intro e3 (And.intro e4 (And.intro e10 (And.intro e5 (And.intro e6 (And.intro e7 (And.intro e8 (And.intro e14 e9)))))))))))) ?_
   refine VC.loop (ι := {q : Nat × List UInt8 × Nat // q.1 ≤ nd.fields.length ∧ q.2.1 ++ (seqF (fs.drop q.1) q.2.2).1 = O ∧ (seqF (fs.drop q.1) q.2.2).2 = E.2}) (fun q => [(1, .row 1000001 q.1.2.1.length), (4, .ref 0 1 0 0), (7, .pp (VT.mk nd.kind n b t xs ks).cells), (9, .pp nd.cells), (64, .c (.sl 9 (nd.fields.map FT.cells))), (65, .c (.v (.int .i64 (nd.fields.length : Int)))), (66, .c (.v (.int .i64 (q.1.1 : Int))))])
    (fun q => [(0, ⟨false, 168, 1, [[.ref 1000000 1 0 0]]⟩), (1000001, ⟨true, 5, 1, bA q.1.2.1⟩), (1000000, ⟨false, 170, 4, [[.c (.sl 10 (s.nodes.map NT.cells)), .c (.v (.int .i64 r)), .c (.sl 1 (cuts.map iPV)), .c (.v (.int .i64 (q.1.2.2 : Int)))]]⟩)]) 4000 (fun q => nd.fields.length - q.1.1) ⟨(0, l, c), Nat.zero_le _, by simp only []; rw [List.drop_zero, ← hE, hO], by simp only []; rw [List.drop_zero, ← hE]⟩ ?_ ?_
   · refine q1j (And.intro @q03 (And.intro @q0d (And.intro @q0k @q3e))) ?_
     exact Nat.le_refl _
   rintro ⟨⟨i, m, d⟩, hi, hm1, hm2⟩
   simp only [] at hi hm1 hm2 ⊢
   refine q0b ?_
   refine VC.cond (by rfl) (by trivial) (fun hc => ?_) (fun hc => ?_)
   · have hlt : i < nd.fields.length := by simp at hc; omega
     obtain ⟨x, hx⟩ : ∃ x, xs[i]? = some x := ⟨xs[i]'(by omega), List.getElem?_eq_getElem (by omega)⟩
     obtain ⟨f, hf⟩ : ∃ f, nd.fields[i]? = some f := ⟨nd.fields[i], List.getElem?_eq_getElem hlt⟩
     have hxp : (xs.map VT.cells)[i]? = some x.cells := by rw [List.getElem?_map, hx]; rfl
     have hfp : (nd.fields.map FT.cells)[i]? = some f.cells := by rw [List.getElem?_map, hf]; rfl
     have hw : IntKind.i64.wrap ((i : Int) + 1) = (i : Int) + 1 := q0f (by omega) (by omega)
     have hta : q2u nd i = f.type := by rw [q2u, hf]
     rw [j3b (hat i x hx), seqF] at hm1 hm2
     simp only [] at hm1 hm2
     have hup3 := j07 (fs.drop (i + 1)) (fun f hf => hup f (List.mem_of_mem_drop hf)) (encM s.nodes cuts (q2u nd i) x d).2
     have hP := hit i x hx m d (by
      rw [hia]
      have := congrArg List.length hm1
      simp at this ⊢
      omega) (by rw [hia]; omega)
     rw [hia] at hP
     rw [← List.append_assoc] at hm1
     obtain ⟨e, he⟩ : ∃ e, e = encM s.nodes cuts (q2u nd i) x d := ⟨_, rfl⟩
     rw [← he] at hP hm1 hm2
     rw [hta, VT.av_eq] at hP
     obtain ⟨nm, hnm⟩ : ∃ nm, nm = m ++ e.1 := ⟨_, rfl⟩
     rw [← hnm] at hP hm1
     have hml : m.length ≤ 90000000 ∧ nm.length ≤ 90000000 := by
      have a := congrArg List.length hm1
      have b := congrArg List.length hnm
      simp at a b
      omega
     refine q0c (And.intro @q03 (And.intro @q0d (And.intro @q0k (And.intro hxp (And.intro hfp (And.intro @q3h (And.intro @q1z (And.intro @q18 (And.intro @q19 (And.intro @q1b (And.intro @q1n @q1i))))))))))) ?_
     refine q01 (And.intro @q0k @q00) [1000000, 1000001] (hP) ?_
     refine q0c (And.intro @q0k (And.intro @q00 hw)) ?_
     refine .next ⟨(i + 1, nm, e.2), by simp only []; omega, hm1, hm2⟩ ?_ (by simp only []; omega)
     refine q1j (And.intro @q03 (And.intro @q0d (And.intro @q0k (And.intro @q3e @q00)))) ?_
     exact ⟨cI (by omega), Nat.le_refl _⟩
   · have hie : i = nd.fields.length := by simp at hc; omega
     rw [List.drop_of_length_le (by omega), seqF] at hm1 hm2
     simp only [List.append_nil] at hm1 hm2
     subst hm1 hm2
     refine q0c (@q0k) ?_
     refine q16 (And.intro @q00 @q0k) Tryz.results121 ?_
     exact .keepW rfl
 have e9 : (nd.kind == 9) = false := by simpa using h9
 rw [if_neg h9] at hE
 have hlx : IntKind.i64.wrap (xs.length : Int) = (xs.length : Int) := q0f (by omega) (by omega)
 by_cases h11 : nd.kind = 11
 · have e11 : (nd.kind == 11) = true := by simpa using h11
   rw [if_pos h11] at hE
   have hia : ∀ j, q08 nd n j = nd.items := fun j => by rw [q08, if_neg h9, if_neg (by omega)]
   have hat : ∀ (i : Nat) (x : VT), xs[i]? = some x → (q1a s.nodes cuts (fun _ => nd.items) xs)[i]? = some (encM s.nodes cuts nd.items x) := fun i x hx => j17 s.nodes cuts xs _ i x hx
   have hup := j16 s.nodes cuts xs (fun _ => nd.items)
   have hfl := q34 s.nodes cuts xs (fun _ => nd.items)
   generalize q1a s.nodes cuts (fun _ => nd.items) xs = fs at hE hat hup hfl
   rw [← hfl] at hE
   subst hE
   have hBl := j76 s.nodes r cuts hcr hcl 176 nd.cells (VT.mk nd.kind n b t xs ks).cells fs hup (by omega) (fun i f hf l c h1 h2 => by
    have hil := (List.getElem?_eq_some_iff.1 hf).1
    obtain ⟨x, hx⟩ : ∃ x, xs[i]? = some x := ⟨xs[i]'(by omega), List.getElem?_eq_getElem (by omega)⟩
    rw [hat i x hx] at hf
    obtain rfl := Option.some.inj hf
    have hP := hit i x hx l c (by rw [hia]; exact h1) (by rw [hia]; exact h2)
    rw [hia] at hP
    exact put1_told s.nodes r cuts nd nd.kind n b t xs ks i x hx l c _ hP) l c (by rw [← hO]; exact hO1) hC1
   obtain ⟨C, hC⟩ : ∃ C, C = (blkF cuts fs.length fs c).2 := ⟨_, rfl⟩
   rw [← hO, ← hC] at hBl
   rw [← hC]
   rw [hfl] at hBl
   rw [q03] at hBl
   unfold bB xE pE at hBl
   rw [q0d] at hBl
   refine q0a (And.intro @q03 (And.intro @q0d (And.intro @q0k (And.intro e2 (And.intro e3 (And.intro e4 (And.intro e10 (And.intro e5 (And.intro e6 (And.intro e7 (And.intro e8 (And.intro e14 (And.intro e9 (And.intro e11 hlx)))))))))))))) ?_
   refine q01 (And.intro @q0k @q00) [1000000, 1000001, 0] (hBl) ?_
   refine q0a (And.intro @q0k @q00) ?_
   refine q16 (And.intro @q00 @q0k) Tryz.results121 ?_
   exact .keepW rfl
 have e11 : (nd.kind == 11) = false := by simpa using h11
 rw [if_neg h11] at hE
 by_cases h12 : nd.kind = 12
 · have e12 : (nd.kind == 12) = true := by simpa using h12
   rw [if_pos h12] at hE
   have hkx := p12 h12
   have hia : ∀ j, q08 nd n j = nd.items := fun j => by rw [q08, if_neg h9, if_neg (by omega)]
   have hat : ∀ (i : Nat) (x : VT) (y : List UInt8), xs[i]? = some x → ks[i]? = some y → (List.zipWith keyF ks (q1a s.nodes cuts (fun _ => nd.items) xs))[i]? = some (keyF y (encM s.nodes cuts nd.items x)) := fun i x y hx hy => by
    rw [List.getElem?_zipWith, hy, j17 s.nodes cuts xs _ i x hx]
   have hup : ∀ f ∈ List.zipWith keyF ks (q1a s.nodes cuts (fun _ => nd.items) xs), Up f := fun f hf => by
    obtain ⟨i, hi⟩ := List.getElem?_of_mem hf
    rw [List.getElem?_zipWith] at hi
    split at hi
    · obtain rfl := Option.some.inj hi
      rename_i y g hy hg
      exact fun c => j16 s.nodes cuts xs _ g (List.mem_of_getElem? hg) c
    · simp at hi
   have hfl : (List.zipWith keyF ks (q1a s.nodes cuts (fun _ => nd.items) xs)).length = xs.length := by
    rw [List.length_zipWith, q34]
    omega
   generalize List.zipWith keyF ks (q1a s.nodes cuts (fun _ => nd.items) xs) = fs at hE hat hup hfl
   rw [← hfl] at hE
   subst hE
   have hBl := j76 s.nodes r cuts hcr hcl 177 (VT.mk nd.kind n b t xs ks).cells nd.cells fs hup (by omega) (fun i f hf l c h1 h2 => by
    have hil := (List.getElem?_eq_some_iff.1 hf).1
    obtain ⟨x, hx⟩ : ∃ x, xs[i]? = some x := ⟨xs[i]'(by omega), List.getElem?_eq_getElem (by omega)⟩
    obtain ⟨y, hy⟩ : ∃ y, ks[i]? = some y := ⟨ks[i]'(by omega), List.getElem?_eq_getElem (by omega)⟩
    rw [hat i x y hx hy] at hf
    obtain rfl := Option.some.inj hf
    have hP := hit i x hx (l ++ (vput (y.length : Int) ++ y)) c (by
     rw [hia]
     unfold keyF at h1
     simp at h1 ⊢
     omega) (by rw [hia]; exact h2)
    rw [hia] at hP
    exact put2_told s.nodes r cuts nd nd.kind n b t xs ks i x hx y hy (hs3 y (List.mem_of_getElem? hy)) l (by simp at h1; omega) c _ hP) l c (by rw [← hO]; exact hO1) hC1
   obtain ⟨C, hC⟩ : ∃ C, C = (blkF cuts fs.length fs c).2 := ⟨_, rfl⟩
   rw [← hO, ← hC] at hBl
   rw [← hC]
   rw [hfl] at hBl
   rw [q03] at hBl
   unfold bB xE pE at hBl
   rw [q0d] at hBl
   refine q0a (And.intro @q03 (And.intro @q0d (And.intro @q0k (And.intro e2 (And.intro e3 (And.intro e4 (And.intro e10 (And.intro e5 (And.intro e6 (And.intro e7 (And.intro e8 (And.intro e14 (And.intro e9 (And.intro e11 (And.intro e12 hlx))))))))))))))) ?_
   refine q01 (And.intro @q0k @q00) [1000000, 1000001, 0] (hBl) ?_
   refine q0a (And.intro @q0k @q00) ?_
   refine q16 (And.intro @q00 @q0k) Tryz.results121 ?_
   exact .keepW rfl
 have e12 : (nd.kind == 12) = false := by simpa using h12
 rw [if_neg h12] at hE
 by_cases h13 : nd.kind = 13
 · have e13 : (nd.kind == 13) = true := by simpa using h13
   rw [if_pos h13] at hE
   obtain ⟨q0, q1, q2⟩ := p13 h13
   obtain ⟨x, hxx⟩ : ∃ x, xs = [x] := List.length_eq_one_iff.1 q2
   obtain ⟨q, rfl⟩ : ∃ q : Nat, n = (q : Int) := ⟨n.toNat, by omega⟩
   obtain ⟨f, hf⟩ : ∃ f, nd.branches[q]? = some f := ⟨nd.branches[q]'(by omega), List.getElem?_eq_getElem (by omega)⟩
   have hba : q2x nd (q : Int) = f := by rw [q2x, Int.toNat_natCast, hf]
   have hia : q08 nd (q : Int) 0 = f := by rw [q08, if_neg h9, if_pos h13, hba]
   have hx0 : xs[0]? = some x := by rw [hxx]; rfl
   have hxp : (xs.map VT.cells)[0]? = some x.cells := by rw [hxx]; rfl
   have hfp : (nd.branches.map iPV)[q]? = some (iPV f) := by rw [List.getElem?_map, hf]; rfl
   have hE2 : E = (vput (q : Int) ++ (encM s.nodes cuts f x c).1, (encM s.nodes cuts f x c).2) := by
    rw [hE, hba, hxx, q1a, q1a, seqF, seqF]
    simp
   clear hE
   subst hE2
   simp only [] at hO hC1
   have hV := q7n l (q : Int) (by omega) hg0 hg1
   obtain ⟨m1, hm1⟩ : ∃ m1, m1 = l ++ vput (q : Int) := ⟨_, rfl⟩
   rw [← List.append_assoc, ← hm1] at hO
   have hP := hit 0 x hx0 m1 c (by rw [hia, ← hO]; exact hO1) (by rw [hia]; exact hC1)
   rw [hia] at hP
   rw [← hm1] at hV
   obtain ⟨C, hC⟩ : ∃ C, C = (encM s.nodes cuts f x c).2 := ⟨_, rfl⟩
   rw [← hO, ← hC, VT.av_eq] at hP
   rw [← hC]
   have hml : m1.length ≤ 90000000 := by rw [hO] at hO1; simp at hO1; omega
   have hpos : 0 < xs.length := by omega
   unfold bB at hV
   refine q0a (And.intro @q03 (And.intro @q0d (And.intro @q0k (And.intro e2 (And.intro e3 (And.intro e4 (And.intro e10 (And.intro e5 (And.intro e6 (And.intro e7 (And.intro e8 (And.intro e14 (And.intro e9 (And.intro e11 (And.intro e12 e13))))))))))))))) ?_
   refine q01 (And.intro @q0k @q00) [1000001] (hV) ?_
   refine q0c (And.intro @q03 (And.intro @q0d (And.intro @q0k (And.intro @q00 (And.intro hxp (And.intro hfp (And.intro @q3b (And.intro @q1b (And.intro @q1n @q1i))))))))) ?_
   refine q01 (And.intro @q0k @q00) [1000000, 1000001] (hP) ?_
   refine q0a (And.intro @q0k @q00) ?_
   refine q16 (And.intro @q00 @q0k) Tryz.results121 ?_
   exact .keepW rfl
 · have e13 : (nd.kind == 13) = false := by simpa using h13
   rw [if_neg h13] at hE
   obtain rfl : E = ([], c) := by
    rw [hE, q2k, if_neg h2, if_neg (by omega), if_neg h5, if_neg h6, if_neg (by omega), if_neg h14]
   simp only [List.append_nil] at hO
   subst hO
   refine q0a (And.intro @q03 (And.intro @q0d (And.intro @q0k (And.intro e2 (And.intro e3 (And.intro e4 (And.intro e10 (And.intro e5 (And.intro e6 (And.intro e7 (And.intro e8 (And.intro e14 (And.intro e9 (And.intro e11 (And.intro e12 e13))))))))))))))) ?_
   refine q16 (And.intro @q00 @q0k) Tryz.results121 ?_
   exact .keepW rfl

/-! Without cuts, how many were taken does not matter. -/
def q7q (f : Enc) : Prop := ∀ c, f c = ((f 0).1, c)
def catF (fs : List Enc) : List UInt8 := (fs.map fun f => (f 0).1).flatten
theorem j8c (f : Enc) (fs : List Enc) : catF (f :: fs) = (f 0).1 ++ catF fs := rfl
theorem q8l : ∀ {fs : List Enc}, (∀ f ∈ fs, q7q f) → ∀ c, seqF fs c = (catF fs, c)
 | [], _, c => by rw [seqF]; rfl
 | f :: fs, h, c => by
   rw [seqF, h f (by simp) c, j8c]
   simp only []
   rw [q8l (fun g hg => h g (by simp [hg])) c]
def blkP (m : Nat) (l : List UInt8) : List UInt8 := if m = 0 then vput 0 else vput (m : Int) ++ (l ++ vput 0)
theorem j1d : ∀ (k : Nat) {fs : List Enc}, (∀ f ∈ fs, q7q f) → fs.length ≤ k → ∀ c, blkF [] k fs c = (blkP fs.length (catF fs), c)
 | 0, [], _, _, c => by rw [blkF]; rfl
 | 0, f :: fs, _, h, c => by simp at h
 | k + 1, [], _, _, c => by rw [blkF]; rfl
 | k + 1, f :: fs, h, hl, c => by
   have e1 : cutM [] c (fs.length + 1) = (fs.length + 1, false, c) := rfl
   have e2 : (f :: fs).take (fs.length + 1) = f :: fs := List.take_of_length_le (by simp)
   have e3 : (f :: fs).drop (fs.length + 1) = [] := List.drop_of_length_le (by simp)
   have e4 : ∀ c, blkF [] k [] c = (vput 0, c) := fun c => by cases k <;> rw [blkF]
   rw [blkF, e1]
   simp only []
   rw [e2, e3, q8l h c, e4]
   simp only [blkP, q5t, List.length_cons]
   rfl
theorem z4a {y : List UInt8} {f : Enc} (h : q7q f) : q7q (keyF y f) := fun c => by
 rw [keyF, keyF]
 simp only []
 rw [h c]
theorem j7j {ks : List (List UInt8)} {fs : List Enc} (h : ∀ f ∈ fs, q7q f) : ∀ f ∈ List.zipWith keyF ks fs, q7q f := fun f hf => by
 obtain ⟨i, hi⟩ := List.getElem?_of_mem hf
 rw [List.getElem?_zipWith] at hi
 split at hi
 · obtain rfl := Option.some.inj hi
   rename_i y g hy hg
   exact z4a (h g (List.mem_of_getElem? hg))
 · simp at hi
mutual
theorem j5e (ns : List NT) : ∀ (v : VT) (a : Int), q7q (encM ns [] a v)
 | .mk k n b t xs ks, a, c => by
   have h := j5f ns xs
   rw [encM]
   simp only []
   split
   · rfl
   · split
     · rw [q8l (h _), q8l (h _)]
     · split
       · rw [j1d _ (h _) (by rw [q34]; exact Nat.le_refl _), j1d _ (h _) (by rw [q34]; exact Nat.le_refl _)]
       · split
         · rename_i nd _ _ _ _
           have h2 : (List.zipWith keyF ks (q1a ns [] (fun _ => nd.items) xs)).length ≤ xs.length := by
            rw [List.length_zipWith, q34]
            exact Nat.min_le_right _ _
           rw [j1d _ (j7j (h _)) h2, j1d _ (j7j (h _)) h2]
         · split
           · simp only []
             rw [q8l (h _), q8l (h _)]
           · rfl
theorem j5f (ns : List NT) : ∀ (xs : List VT) (f : Nat → Int), ∀ e ∈ q1a ns [] f xs, q7q e
 | [], f => by rw [q1a]; simp
 | x :: xs, f => by
   rw [q1a]
   intro e he
   rcases List.mem_cons.1 he with rfl | he
   · exact j5e ns x _
   · exact j5f ns xs _ e he
end
def encP (ns : List NT) (a : Int) (v : VT) : List UInt8 := (encM ns [] a v 0).1
def catP (ns : List NT) (f : Nat → Int) (xs : List VT) : List UInt8 := catF (q1a ns [] f xs)
def catK (ns : List NT) (f : Nat → Int) (ks : List (List UInt8)) (xs : List VT) : List UInt8 := catF (List.zipWith keyF ks (q1a ns [] f xs))
theorem j0y (ns : List NT) (f : Nat → Int) : catP ns f [] = [] := by rw [catP, q1a]; rfl
theorem q7w (ns : List NT) (f : Nat → Int) (x : VT) (xs : List VT) : catP ns f (x :: xs) = encP ns (f 0) x ++ catP ns (fun i => f (i + 1)) xs := by
 rw [catP, q1a]
 rfl
theorem j0x (ns : List NT) (f : Nat → Int) (y : List UInt8) (ks : List (List UInt8)) (x : VT) (xs : List VT) : catK ns f (y :: ks) (x :: xs) = vput (y.length : Int) ++ (y ++ (encP ns (f 0) x ++ catK ns (fun i => f (i + 1)) ks xs)) := by
 rw [catK, q1a, List.zipWith_cons_cons, j8c, keyF]
 simp only [List.append_assoc]
 rfl
theorem j0z {ns : List NT} {a : Int} {nd : NT} (h : ns[a.toNat]? = some nd) (k n b : Int) (t : List UInt8) (xs : List VT) (ks : List (List UInt8)) : encP ns a (.mk k n b t xs ks) =
  if nd.kind = 9 then catP ns (fun j => q2u nd j) xs else if nd.kind = 11 then blkP xs.length (catP ns (fun _ => nd.items) xs) else if nd.kind = 12 then blkP (min ks.length xs.length) (catK ns (fun _ => nd.items) ks xs)
  else if nd.kind = 13 then vput n ++ catP ns (fun _ => q2x nd n) xs else q2k nd nd.kind n b t := by
 have hs := j5f ns xs
 rw [encP, encM, h]
 simp only []
 split
 · rw [q8l (hs _)]
   rfl
 · split
   · rw [j1d _ (hs _) (by rw [q34]; exact Nat.le_refl _), q34]
     rfl
   · split
     · rw [j1d _ (j7j (hs _)) (by rw [List.length_zipWith, q34]; exact Nat.min_le_right _ _), List.length_zipWith, q34]
       rfl
     · split
       · rw [q8l (hs _)]
         rfl
       · rfl
theorem j41 (ns : List NT) (xs : List VT) (f : Nat → Int) (i : Nat) (x : VT) (h : xs[i]? = some x) : (encP ns (f i) x).length ≤ (catP ns f xs).length := by
 induction xs generalizing f i with
 | nil => simp at h
 | cons y ys ih =>
   rw [q7w, List.length_append]
   cases i with
   | zero =>
     obtain rfl := Option.some.inj h
     omega
   | succ i =>
     exact Nat.le_trans (ih (fun i => f (i + 1)) i (by simpa using h)) (Nat.le_add_left _ _)
/-! Bytes tell values apart. -/
theorem vint_inj : ∀ (u w : Nat) (R S : List UInt8), vint u ++ R = vint w ++ S → u = w ∧ R = S := by
 intro u
 induction u using Nat.strongRecOn with
 | _ u ih =>
 intro w R S h
 by_cases hu : u < 128
 · rw [q60 hu] at h
   by_cases hw : w < 128
   · rw [q60 hw] at h
     simp only [List.cons_append, List.nil_append, List.cons.injEq] at h
     obtain ⟨h1, h2⟩ := h
     have h3 := congrArg UInt8.toNat h1
     simp at h3
     exact ⟨by omega, h2⟩
   · rw [j1a hw] at h
     simp only [List.cons_append, List.nil_append, List.cons.injEq] at h
     have h3 := congrArg UInt8.toNat h.1
     simp at h3
     omega
 · rw [j1a hu] at h
   by_cases hw : w < 128
   · rw [q60 hw] at h
     simp only [List.cons_append, List.nil_append, List.cons.injEq] at h
     have h3 := congrArg UInt8.toNat h.1
     simp at h3
     omega
   · rw [j1a hw] at h
     simp only [List.cons_append, List.cons.injEq] at h
     have h3 := congrArg UInt8.toNat h.1
     simp at h3
     obtain ⟨h4, h5⟩ := ih (u / 128) (by omega) (w / 128) R S h.2
     exact ⟨by omega, h5⟩
theorem j1b {m n : Int} {R S : List UInt8} (h : vput m ++ R = vput n ++ S) : m = n ∧ R = S := by
 obtain ⟨h1, h2⟩ := vint_inj _ _ R S h
 refine ⟨?_, h2⟩
 unfold zigN at h1
 split at h1 <;> split at h1 <;> omega
theorem j73 (b c : Int) : ∀ k, q2w b k = q2w c k → b.toNat % 256 ^ k = c.toNat % 256 ^ k
 | 0, _ => by simp [Nat.mod_one]
 | k + 1, h => by
   rw [q2w, q2w] at h
   obtain ⟨h1, h2⟩ := List.append_inj h (by rw [q5q, q5q])
   have h3 := j73 b c k h1
   have h4 := congrArg UInt8.toNat (List.cons.inj h2).1
   simp at h4
   rw [Nat.pow_succ, Nat.mod_mul, Nat.mod_mul, h3, h4]
theorem j72 {b c : Int} {k : Nat} {R S : List UInt8} (h : q2w b k ++ R = q2w c k ++ S) (hb : 0 ≤ b) (hc : 0 ≤ c) (hb' : b.toNat < 256 ^ k) (hc' : c.toNat < 256 ^ k) : b = c ∧ R = S := by
 obtain ⟨h1, h2⟩ := List.append_inj h (by rw [q5q, q5q])
 have h3 := j73 b c k h1
 rw [Nat.mod_eq_of_lt hb', Nat.mod_eq_of_lt hc'] at h3
 exact ⟨by omega, h2⟩
theorem blk_inj {m n : Nat} {l r R S : List UInt8} (h : blkP m l ++ R = blkP n r ++ S) : m = n ∧ ((m = 0 ∧ R = S) ∨ (m ≠ 0 ∧ l ++ (vput 0 ++ R) = r ++ (vput 0 ++ S))) := by
 unfold blkP at h
 by_cases hm : m = 0
 · rw [if_pos hm] at h
   by_cases hn : n = 0
   · rw [if_pos hn] at h
     exact ⟨by omega, .inl ⟨hm, List.append_cancel_left h⟩⟩
   · rw [if_neg hn, List.append_assoc] at h
     have := (j1b h).1
     omega
 · rw [if_neg hm, List.append_assoc] at h
   by_cases hn : n = 0
   · rw [if_pos hn] at h
     have := (j1b h).1
     omega
   · rw [if_neg hn, List.append_assoc, List.append_assoc, List.append_assoc] at h
     obtain ⟨h1, h2⟩ := j1b h
     exact ⟨by omega, .inr ⟨hm, h2⟩⟩
theorem j4n {k n b : Int} {t : List UInt8} {m : Nat} {ks : List (List UInt8)} (h : q2y k n b t m ks = true) :
  (¬ (k = 2 ∨ k = 3 ∨ k = 4 ∨ k = 10 ∨ k = 13) → n = 0) ∧ (¬ (k = 5 ∨ k = 6) → b = 0) ∧ (¬ (k = 7 ∨ k = 8 ∨ k = 14) → t = []) ∧ (¬ (k = 9 ∨ k = 11 ∨ k = 12 ∨ k = 13) → m = 0) ∧ (k ≠ 12 → ks = []) := by
 unfold q2y at h
 simp only [Bool.and_eq_true, Bool.or_eq_true, beq_iff_eq, List.isEmpty_iff] at h
 obtain ⟨h1, h2, h3, h4, h5⟩ := h
 refine ⟨fun g => ?_, fun g => ?_, fun g => ?_, fun g => ?_, fun g => ?_⟩
 · rcases h1 with h1 | h1
   · omega
   · exact h1
 · rcases h2 with h2 | h2
   · omega
   · exact h2
 · rcases h3 with h3 | h3
   · omega
   · exact h3
 · rcases h4 with h4 | h4
   · omega
   · exact h4
 · rcases h5 with h5 | h5
   · omega
   · exact h5
theorem leaf_inj {nd : NT} {n b n' b' : Int} {t t' R S : List UInt8} (h : q2k nd nd.kind n b t ++ R = q2k nd nd.kind n' b' t' ++ S)
  (b0 : 0 ≤ b) (b1 : b < 18446744073709551616) (c0 : 0 ≤ b') (c1 : b' < 18446744073709551616)
  (p14 : nd.kind = 14 → (t.length : Int) = nd.size) (q14 : nd.kind = 14 → (t'.length : Int) = nd.size) (p2 : nd.kind = 2 → n = 0 ∨ n = 1) (q2 : nd.kind = 2 → n' = 0 ∨ n' = 1)
  (p5 : nd.kind = 5 → b < 4294967296) (q5 : nd.kind = 5 → b' < 4294967296) (h13 : nd.kind ≠ 13)
  (z1 : ¬ (nd.kind = 2 ∨ nd.kind = 3 ∨ nd.kind = 4 ∨ nd.kind = 10 ∨ nd.kind = 13) → n = 0) (z2 : ¬ (nd.kind = 5 ∨ nd.kind = 6) → b = 0) (z3 : ¬ (nd.kind = 7 ∨ nd.kind = 8 ∨ nd.kind = 14) → t = [])
  (y1 : ¬ (nd.kind = 2 ∨ nd.kind = 3 ∨ nd.kind = 4 ∨ nd.kind = 10 ∨ nd.kind = 13) → n' = 0) (y2 : ¬ (nd.kind = 5 ∨ nd.kind = 6) → b' = 0) (y3 : ¬ (nd.kind = 7 ∨ nd.kind = 8 ∨ nd.kind = 14) → t' = []) :
  n = n' ∧ b = b' ∧ t = t' ∧ R = S := by
 generalize nd.kind = k at *
 unfold q2k at h
 by_cases h2 : k = 2
 · rw [if_pos h2, if_pos h2] at h
   simp only [List.cons_append, List.nil_append, List.cons.injEq] at h
   obtain ⟨g1, g2⟩ := h
   refine ⟨?_, by rw [z2 (by omega), y2 (by omega)], by rw [z3 (by omega), y3 (by omega)], g2⟩
   rcases p2 h2 with rfl | rfl <;> rcases q2 h2 with rfl | rfl <;> first | rfl | (revert g1; decide)
 rw [if_neg h2, if_neg h2] at h
 by_cases h3 : k = 3 ∨ k = 4 ∨ k = 10
 · rw [if_pos h3, if_pos h3] at h
   obtain ⟨g1, g2⟩ := j1b h
   exact ⟨g1, by rw [z2 (by omega), y2 (by omega)], by rw [z3 (by omega), y3 (by omega)], g2⟩
 rw [if_neg h3, if_neg h3] at h
 have en : n = n' := by rw [z1 (by omega), y1 (by omega)]
 by_cases h5 : k = 5
 · rw [if_pos h5, if_pos h5] at h
   have := p5 h5
   have := q5 h5
   obtain ⟨g1, g2⟩ := j72 h b0 c0 (by omega) (by omega)
   exact ⟨en, g1, by rw [z3 (by omega), y3 (by omega)], g2⟩
 rw [if_neg h5, if_neg h5] at h
 by_cases h6 : k = 6
 · rw [if_pos h6, if_pos h6] at h
   obtain ⟨g1, g2⟩ := j72 h b0 c0 (by omega) (by omega)
   exact ⟨en, g1, by rw [z3 (by omega), y3 (by omega)], g2⟩
 rw [if_neg h6, if_neg h6] at h
 have eb : b = b' := by rw [z2 (by omega), y2 (by omega)]
 by_cases h7 : k = 7 ∨ k = 8
 · rw [if_pos h7, if_pos h7, List.append_assoc, List.append_assoc] at h
   obtain ⟨g1, g2⟩ := j1b h
   obtain ⟨g3, g4⟩ := List.append_inj g2 (by omega)
   exact ⟨en, eb, g3, g4⟩
 rw [if_neg h7, if_neg h7] at h
 by_cases h14 : k = 14
 · rw [if_pos h14, if_pos h14] at h
   have := p14 h14
   have := q14 h14
   obtain ⟨g3, g4⟩ := List.append_inj h (by omega)
   exact ⟨en, eb, g3, g4⟩
 rw [if_neg h14, if_neg h14] at h
 exact ⟨en, eb, by rw [z3 (by omega), y3 (by omega)], h⟩
mutual
theorem enc_inj (ns : List NT) : ∀ (v w : VT) (a : Int), v.inr → w.inr → isM ns a v = true → isM ns a w = true → ∀ R S, encP ns a v ++ R = encP ns a w ++ S → v = w ∧ R = S
 | .mk k n b t xs ks, .mk k' n' b' t' xs' ks', a, hi, hi', hv, hw, R, S, h => by
   have hE := j9a ns xs
   have hK := j9e ns xs
   cases hnd : ns[a.toNat]? with
   | none => rw [isM, hnd] at hv; simp at hv
   | some nd =>
   obtain ⟨rfl, hb, _, p9, p12, p13, p14, p2, p5⟩ := j3r hnd hv
   obtain ⟨rfl, hb', _, q9, q12, q13, q14, q2, q5⟩ := j3r hnd hw
   rw [q67 hnd, Bool.and_eq_true] at hv hw
   have hx := hv.2
   have hx' := hw.2
   rw [j0z hnd, j0z hnd] at h
   obtain ⟨z1, z2, z3, z4, z5⟩ := j4n hb
   obtain ⟨y1, y2, y3, y4, y5⟩ := j4n hb'
   obtain ⟨⟨b0, b1⟩, hi1⟩ := hi
   obtain ⟨⟨c0, c1⟩, hi2⟩ := hi'
   by_cases h9 : nd.kind = 9
   · rw [if_pos h9, if_pos h9] at h
     have e9 : ∀ n, q08 nd n = fun j => q2u nd j := fun n => by funext i; rw [q08, if_pos h9]
     rw [e9] at hx hx'
     obtain ⟨g1, g2⟩ := hE xs' _ hi1 hi2 hx hx' (by rw [p9 h9, q9 h9]) R S h
     refine ⟨?_, g2⟩
     rw [g1, z1 (by omega), y1 (by omega), z2 (by omega), y2 (by omega), z3 (by omega), y3 (by omega), z5 (by omega), y5 (by omega)]
   rw [if_neg h9, if_neg h9] at h
   by_cases h11 : nd.kind = 11
   · rw [if_pos h11, if_pos h11] at h
     have e9 : ∀ n, q08 nd n = fun _ => nd.items := fun n => by funext i; rw [q08, if_neg h9, if_neg (by omega)]
     rw [e9] at hx hx'
     obtain ⟨g0, g⟩ := blk_inj h
     have key : xs = xs' ∧ R = S := by
      rcases g with ⟨g1, g2⟩ | ⟨_, g2⟩
      · rw [List.eq_nil_of_length_eq_zero g1, List.eq_nil_of_length_eq_zero (show xs'.length = 0 by omega)]
        exact ⟨rfl, g2⟩
      · obtain ⟨g3, g4⟩ := hE xs' _ hi1 hi2 hx hx' g0 _ _ g2
        exact ⟨g3, List.append_cancel_left g4⟩
     refine ⟨?_, key.2⟩
     rw [key.1, z1 (by omega), y1 (by omega), z2 (by omega), y2 (by omega), z3 (by omega), y3 (by omega), z5 (by omega), y5 (by omega)]
   rw [if_neg h11, if_neg h11] at h
   by_cases h12 : nd.kind = 12
   · rw [if_pos h12, if_pos h12] at h
     have e9 : ∀ n, q08 nd n = fun _ => nd.items := fun n => by funext i; rw [q08, if_neg h9, if_neg (by omega)]
     rw [e9] at hx hx'
     have l1 := p12 h12
     have l2 := q12 h12
     obtain ⟨g0, g⟩ := blk_inj h
     have key : (ks = ks' ∧ xs = xs') ∧ R = S := by
      rcases g with ⟨g1, g2⟩ | ⟨_, g2⟩
      · rw [List.eq_nil_of_length_eq_zero (show xs.length = 0 by omega), List.eq_nil_of_length_eq_zero (show xs'.length = 0 by omega), List.eq_nil_of_length_eq_zero (show ks.length = 0 by omega), List.eq_nil_of_length_eq_zero (show ks'.length = 0 by omega)]
        exact ⟨⟨rfl, rfl⟩, g2⟩
      · obtain ⟨g3, g4⟩ := hK xs' ks ks' _ hi1 hi2 hx hx' (by omega) (by omega) (by omega) _ _ g2
        exact ⟨g3, List.append_cancel_left g4⟩
     refine ⟨?_, key.2⟩
     rw [key.1.1, key.1.2, z1 (by omega), y1 (by omega), z2 (by omega), y2 (by omega), z3 (by omega), y3 (by omega)]
   rw [if_neg h12, if_neg h12] at h
   by_cases h13 : nd.kind = 13
   · rw [if_pos h13, if_pos h13, List.append_assoc, List.append_assoc] at h
     obtain ⟨rfl, g⟩ := j1b h
     have e9 : q08 nd n = fun _ => q2x nd n := by funext i; rw [q08, if_neg h9, if_pos h13]
     rw [e9] at hx hx'
     obtain ⟨g1, g2⟩ := hE xs' _ hi1 hi2 hx hx' (by rw [(p13 h13).2.2, (q13 h13).2.2]) R S g
     refine ⟨?_, g2⟩
     rw [g1, z2 (by omega), y2 (by omega), z3 (by omega), y3 (by omega), z5 (by omega), y5 (by omega)]
   rw [if_neg h13, if_neg h13] at h
   obtain ⟨g1, g2, g3, g4⟩ := leaf_inj h b0 b1 c0 c1 p14 q14 p2 q2 p5 q5 h13 z1 z2 z3 y1 y2 y3
   refine ⟨?_, g4⟩
   rw [g1, g2, g3, z5 (by omega), y5 (by omega), List.eq_nil_of_length_eq_zero (z4 (by omega)), List.eq_nil_of_length_eq_zero (y4 (by omega))]
theorem j9a (ns : List NT) : ∀ (xs ys : List VT) (f : Nat → Int), VT.inrL xs → VT.inrL ys → q1x ns f xs = true → q1x ns f ys = true → xs.length = ys.length → ∀ R S, catP ns f xs ++ R = catP ns f ys ++ S → xs = ys ∧ R = S
 | [], [], f, _, _, _, _, _, R, S, h => ⟨rfl, by rw [j0y] at h; exact h⟩
 | [], y :: ys, f, _, _, _, _, hl, R, S, h => by simp at hl
 | x :: xs, [], f, _, _, _, _, hl, R, S, h => by simp at hl
 | x :: xs, y :: ys, f, hi, hj, hx, hy, hl, R, S, h => by
   rw [q1x, Bool.and_eq_true] at hx hy
   rw [q7w, q7w, List.append_assoc, List.append_assoc] at h
   obtain ⟨g1, g2⟩ := enc_inj ns x y (f 0) hi.1 hj.1 hx.1 hy.1 _ _ h
   obtain ⟨g3, g4⟩ := j9a ns xs ys _ hi.2 hj.2 hx.2 hy.2 (by simpa using hl) _ _ g2
   exact ⟨by rw [g1, g3], g4⟩
theorem j9e (ns : List NT) : ∀ (xs ys : List VT) (ks js : List (List UInt8)) (f : Nat → Int), VT.inrL xs → VT.inrL ys → q1x ns f xs = true → q1x ns f ys = true → xs.length = ys.length → ks.length = xs.length → js.length = ys.length → ∀ R S, catK ns f ks xs ++ R = catK ns f js ys ++ S → (ks = js ∧ xs = ys) ∧ R = S
 | [], [], [], [], f, _, _, _, _, _, _, _, R, S, h => ⟨⟨rfl, rfl⟩, by rw [catK, q1a] at h; exact h⟩
 | [], [], [], j :: js, f, _, _, _, _, _, _, hj, R, S, h => by simp at hj
 | [], [], k :: ks, js, f, _, _, _, _, _, hk, _, R, S, h => by simp at hk
 | [], y :: ys, ks, js, f, _, _, _, _, hl, _, _, R, S, h => by simp at hl
 | x :: xs, [], ks, js, f, _, _, _, _, hl, _, _, R, S, h => by simp at hl
 | x :: xs, y :: ys, [], js, f, _, _, _, _, _, hk, _, R, S, h => by simp at hk
 | x :: xs, y :: ys, k :: ks, [], f, _, _, _, _, _, _, hj, R, S, h => by simp at hj
 | x :: xs, y :: ys, k :: ks, j :: js, f, hi, hj, hx, hy, hl, hk, hjl, R, S, h => by
   rw [q1x, Bool.and_eq_true] at hx hy
   rw [j0x, j0x] at h
   simp only [List.append_assoc] at h
   obtain ⟨a1, a2⟩ := j1b h
   obtain ⟨a3, a4⟩ := List.append_inj a2 (by omega)
   obtain ⟨g1, g2⟩ := enc_inj ns x y (f 0) hi.1 hj.1 hx.1 hy.1 _ _ a4
   obtain ⟨g3, g4⟩ := j9e ns xs ys ks js _ hi.2 hj.2 hx.2 hy.2 (by simpa using hl) (by simpa using hk) (by simpa using hjl) _ _ g2
   exact ⟨⟨by rw [a3, g3.1], by rw [g1, g3.2]⟩, g4⟩
end

theorem j3z {n : Nat} {B l : List UInt8} {p q : Nat} (h : q2d n B p = .ok (l, q)) : l.length = n ∧ q = p + n := by
 unfold q2d at h
 split at h
 · injection h with h; injection h with h1 h2
   subst h1 h2
   rw [List.length_take, List.length_drop]
   omega
 · simp at h
theorem q25 {α : Type} {x y : α} {B : List UInt8} {p q : Nat} (h : rret x B p = .ok (y, q)) : x = y ∧ p = q := by
 unfold rret at h
 injection h with h; injection h with h1 h2
 exact ⟨h1, h2⟩
theorem q63 {α : Type} {e : Int} {y : α} {B : List UInt8} {p q : Nat} (h : rbad e B p = .ok (y, q)) : False := by
 unfold rbad at h
 simp at h
theorem z1f : ∀ l : List UInt8, q2e l < 256 ^ l.length
 | [] => by simp [q2e]
 | c :: cs => by
   have := z1f cs
   have := c.toNat_lt
   rw [q2e, List.length_cons, Nat.pow_succ]
   omega
theorem bits_ok {k : Nat} {B : List UInt8} {p q : Nat} {n : Int} (h : q47 k B p = .ok (n, q)) : 0 ≤ n ∧ n < ((256 ^ k : Nat) : Int) ∧ q = p + k := by
 obtain ⟨l, r, h1, h2⟩ := q2i h
 obtain ⟨h3, h4⟩ := j3z h1
 obtain ⟨rfl, rfl⟩ := q25 h2
 have := z1f l
 rw [h3] at this
 refine ⟨by omega, by omega, h4⟩
theorem bool_ok {B : List UInt8} {p q : Nat} {n : Int} (h : q48 B p = .ok (n, q)) : (n = 0 ∨ n = 1) ∧ q = p + 1 := by
 obtain ⟨l, r, h1, h2⟩ := q2i h
 obtain ⟨h3, h4⟩ := j3z h1
 split at h2
 · exact (q63 h2).elim
 · obtain ⟨rfl, rfl⟩ := q25 h2
   refine ⟨by omega, h4⟩
theorem j8a {B l : List UInt8} {p q : Nat} (h : q3n B p = .ok (l, q)) : l.length ≤ 20000 ∧ q = p + (vput (l.length : Int) ++ l).length := by
 obtain ⟨n, r, h1, h2⟩ := q2i h
 obtain ⟨h3, h4⟩ := j2f h1
 split at h2
 · exact (q63 h2).elim
 split at h2
 · exact (q63 h2).elim
 · obtain ⟨h5, h6⟩ := j3z h2
   refine ⟨by omega, ?_⟩
   rw [List.length_append, show (l.length : Int) = n from by omega]
   omega
theorem text_ok {B l : List UInt8} {p q : Nat} (h : q2t B p = .ok (l, q)) : l.length ≤ 20000 ∧ q2p l = true ∧ q = p + (vput (l.length : Int) ++ l).length := by
 obtain ⟨m, r, h1, h2⟩ := q2i h
 obtain ⟨h3, h4⟩ := j8a h1
 split at h2
 · rename_i hr
   obtain ⟨rfl, rfl⟩ := q25 h2
   exact ⟨h3, hr, h4⟩
 · exact (q63 h2).elim
theorem j9w {f : Rd Int} {many : Nat} {B : List UInt8} {p q : Nat} {n : Int} (h : q8j f many B p = .ok (n, q)) : 0 ≤ n ∧ n < (many : Int) ∧ f B p = .ok (n, q) := by
 obtain ⟨m, r, h1, h2⟩ := q2i h
 split at h2
 · exact (q63 h2).elim
 · obtain ⟨rfl, rfl⟩ := q25 h2
   refine ⟨by omega, by omega, h1⟩
theorem j4q (n : Int) : 1 ≤ (vput n).length := by
 rw [vput, vint]
 split <;> simp
theorem z1t {m : Nat} (h : m ≤ 300) : (vput (m : Int)).length ≤ 2 :=
 j67 1 _ (by unfold zigN; split <;> omega)
theorem count_ok {k : Nat} (hk : k ≤ 300) {B : List UInt8} {p q m : Nat} (h : q4w k B p = .ok (m, q)) : m + k ≤ 300 ∧ p + (vput (m : Int)).length ≤ q := by
 obtain ⟨n, r, h1, h2⟩ := q2i h
 obtain ⟨h3, h4, h5⟩ := j2f h1
 split at h2
 · obtain ⟨n2, r2, h6, h7⟩ := q2i h2
   obtain ⟨h8, _⟩ := j2f h6
   split at h7
   · exact (q63 h7).elim
   · obtain ⟨rfl, rfl⟩ := q25 h7
     have h9 := j4q n
     have h10 := j4q n2
     have h11 := z1t (m := (-n).toNat) (by omega)
     refine ⟨by omega, by omega⟩
 · split at h2
   · exact (q63 h2).elim
   · obtain ⟨rfl, rfl⟩ := q25 h2
     refine ⟨by omega, ?_⟩
     rw [show ((n.toNat : Nat) : Int) = n from by omega]
     omega
structure Fine (s : ST) (d : Nat) (a : Int) (v : VT) : Prop where
 is : isM s.nodes a v = true
 deep : q2l v ≤ d
 inr : v.inr
 lng : v.lng
 sm : v.sm 1000000
def FineR (s : ST) (d : Nat) (f : Int → Rd VT) : Prop := ∀ (a : Int) (B : List UInt8) (p q : Nat) (v : VT), 0 ≤ a → a < (s.nodes.length : Int) → p ≤ B.length → f a B p = .ok (v, q) → Fine s d a v ∧ p + (encP s.nodes a v).length ≤ q
def tyL (ts : List FT) (i : Nat) : Int := match ts[i]? with | some f => f.type | none => -1
theorem z08 (t : FT) (ts : List FT) : (fun i => tyL (t :: ts) (i + 1)) = tyL ts := rfl
theorem j8y {s : ST} {d : Nat} {f : Int → Rd VT} (hf : ∀ a, Fair (f a)) (H : FineR s d f) : ∀ (ts : List FT) (xs : List VT) (B : List UInt8) (p q : Nat) (ys : List VT), (∀ t ∈ ts, 0 ≤ t.type ∧ t.type < (s.nodes.length : Int)) → p ≤ B.length → q5y f ts xs B p = .ok (ys, q) →
  ∃ zs, ys = xs ++ zs ∧ zs.length = ts.length ∧ q1x s.nodes (tyL ts) zs = true ∧ (∀ z ∈ zs, q2l z ≤ d ∧ z.inr ∧ z.lng ∧ z.sm 1000000) ∧ p + (catP s.nodes (tyL ts) zs).length ≤ q
 | [], xs, B, p, q, ys, _, hp, h => by
   rw [q5y] at h
   obtain ⟨rfl, rfl⟩ := q25 h
   exact ⟨[], by simp, rfl, by rw [q1x], by simp, by rw [j0y]; simp⟩
 | t :: ts, xs, B, p, q, ys, ht, hp, h => by
   rw [q5y] at h
   obtain ⟨v, r, h1, h2⟩ := q2i h
   have ht0 := ht t (by simp)
   obtain ⟨hv, hl⟩ := H t.type B p r v ht0.1 ht0.2 hp h1
   obtain ⟨zs, e1, e2, e3, e4, e5⟩ := j8y hf H ts _ B r q ys (fun x hx => ht x (by simp [hx])) ((hf _).fwd hp h1).2 h2
   refine ⟨v :: zs, by rw [e1, List.append_assoc]; rfl, by simp [e2], ?_, ?_, ?_⟩
   · rw [q1x, z08, e3, Bool.and_true]
     exact hv.is
   · intro z hz
     rcases List.mem_cons.1 hz with rfl | hz
     · exact ⟨hv.deep, hv.inr, hv.lng, hv.sm⟩
     · exact e4 z hz
   · rw [q7w, z08, List.length_append]
     have : (encP s.nodes (tyL (t :: ts) 0) v).length = (encP s.nodes t.type v).length := rfl
     omega
def catI (ns : List NT) (b : Bool) (a : Int) (ks : List (List UInt8)) (xs : List VT) : List UInt8 := if b = true then catK ns (fun _ => a) ks xs else catP ns (fun _ => a) xs
theorem j8f (ns : List NT) (a : Int) : ∀ xs ys : List VT, catP ns (fun _ => a) (xs ++ ys) = catP ns (fun _ => a) xs ++ catP ns (fun _ => a) ys
 | [], ys => by rw [j0y]; rfl
 | x :: xs, ys => by rw [List.cons_append, q7w, q7w, j8f ns a xs ys, List.append_assoc]
theorem j25 (ns : List NT) (f : Nat → Int) (ks : List (List UInt8)) : catK ns f ks [] = [] := by rw [catK, q1a, List.zipWith_nil_right]; rfl
theorem j8e (ns : List NT) (a : Int) : ∀ (ks js : List (List UInt8)) (xs ys : List VT), ks.length = xs.length → catK ns (fun _ => a) (ks ++ js) (xs ++ ys) = catK ns (fun _ => a) ks xs ++ catK ns (fun _ => a) js ys
 | [], js, [], ys, _ => by rw [j25]; rfl
 | k :: ks, js, x :: xs, ys, h => by
   rw [List.cons_append, List.cons_append, j0x, j0x, j8e ns a ks js xs ys (by simpa using h)]
   simp only [List.append_assoc]
 | [], js, x :: xs, ys, h => by simp at h
 | k :: ks, js, [], ys, h => by simp at h
theorem j8d (ns : List NT) (b : Bool) (a : Int) (ks js : List (List UInt8)) (xs ys : List VT) (h : b = true → ks.length = xs.length) : catI ns b a (ks ++ js) (xs ++ ys) = catI ns b a ks xs ++ catI ns b a js ys := by
 unfold catI
 split
 · rename_i hb
   exact j8e ns a ks js xs ys (h hb)
 · exact j8f ns a xs ys
structure Items (s : ST) (d : Nat) (b : Bool) (a : Int) (zs : List VT) (ls : List (List UInt8)) : Prop where
 each : ∀ z ∈ zs, Fine s d a z
 keys : ∀ y ∈ ls, keyM y = true
 len : ls.length = if b = true then zs.length else 0
theorem Items.app {s : ST} {d : Nat} {b : Bool} {a : Int} {zs ys : List VT} {ls ms : List (List UInt8)} (h : Items s d b a zs ls) (h' : Items s d b a ys ms) : Items s d b a (zs ++ ys) (ls ++ ms) := by
 refine ⟨fun z hz => ?_, fun y hy => ?_, ?_⟩
 · rcases List.mem_append.1 hz with hz | hz
   · exact h.each z hz
   · exact h'.each z hz
 · rcases List.mem_append.1 hy with hy | hy
   · exact h.keys y hy
   · exact h'.keys y hy
 · rw [List.length_append, List.length_append, h.len, h'.len]
   split <;> rfl
theorem item_ok {s : ST} {d : Nat} {f : Int → Rd VT} (H : FineR s d f) {a : Int} (ha : 0 ≤ a) (ha' : a < (s.nodes.length : Int)) (b : Bool) {B : List UInt8} {p q : Nat} {x : List (List UInt8) × VT} (hp : p ≤ B.length) (h : q4x b (f a) B p = .ok (x, q)) :
  Items s d b a [x.2] x.1 ∧ p + (catI s.nodes b a x.1 [x.2]).length ≤ q := by
 unfold q4x at h
 split at h
 · rename_i hb
   obtain ⟨y, r, h1, h2⟩ := q2i h
   obtain ⟨v, r2, h3, h4⟩ := q2i h2
   obtain ⟨rfl, rfl⟩ := q25 h4
   obtain ⟨hy1, hy2, hy3⟩ := text_ok h1
   obtain ⟨hv, hl⟩ := H a B r r2 v ha ha' (q73.fwd hp h1).2 h3
   refine ⟨⟨fun z hz => by simp at hz; subst hz; exact hv, fun z hz => ?_, by rw [if_pos hb]; rfl⟩, ?_⟩
   · simp at hz
     subst hz
     unfold keyM
     simp [hy1, hy2]
   · unfold catI
     rw [if_pos hb, j0x, j25]
     simp only [List.length_append, List.append_nil] at *
     omega
 · rename_i hb
   obtain ⟨v, r2, h3, h4⟩ := q2i h
   obtain ⟨rfl, rfl⟩ := q25 h4
   obtain ⟨hv, hl⟩ := H a B p r2 v ha ha' hp h3
   refine ⟨⟨fun z hz => by simp at hz; subst hz; exact hv, fun z hz => by simp at hz, by rw [if_neg hb]; rfl⟩, ?_⟩
   unfold catI
   rw [if_neg hb, q7w, j0y, List.append_nil]
   exact hl
theorem row_ok {s : ST} {d : Nat} {f : Int → Rd VT} (hf : ∀ a, Fair (f a)) (H : FineR s d f) {a : Int} (ha : 0 ≤ a) (ha' : a < (s.nodes.length : Int)) (b : Bool) : ∀ (m : Nat) (xs : List VT) (ks : List (List UInt8)) (B : List UInt8) (p q : Nat) (R : List VT × List (List UInt8)), p ≤ B.length →
  rrow (q4x b (f a)) m xs ks B p = .ok (R, q) → ∃ zs ls, R = (xs ++ zs, ks ++ ls) ∧ zs.length = m ∧ Items s d b a zs ls ∧ p + (catI s.nodes b a ls zs).length ≤ q
 | 0, xs, ks, B, p, q, R, hp, h => by
   rw [rrow] at h
   obtain ⟨rfl, rfl⟩ := q25 h
   refine ⟨[], [], by simp, rfl, ⟨by simp, by simp, by simp⟩, ?_⟩
   unfold catI
   split
   · rw [j25]; simp
   · rw [j0y]; simp
 | m + 1, xs, ks, B, p, q, R, hp, h => by
   rw [rrow] at h
   obtain ⟨x, r, h1, h2⟩ := q2i h
   obtain ⟨hx, hl⟩ := item_ok H ha ha' b hp h1
   obtain ⟨zs, ls, e1, e2, e3, e4⟩ := row_ok hf H ha ha' b m _ _ B r q R ((j2b b (hf a)).fwd hp h1).2 h2
   refine ⟨x.2 :: zs, x.1 ++ ls, by rw [e1]; simp, by simp [e2], hx.app e3, ?_⟩
   have h3 := j8d s.nodes b a x.1 ls [x.2] zs (fun hb => by have := hx.len; rw [if_pos hb] at this; exact this)
   rw [List.singleton_append] at h3
   rw [h3, List.length_append]
   omega
theorem blks_ok {s : ST} {d : Nat} {f : Int → Rd VT} (hf : ∀ a, Fair (f a)) (H : FineR s d f) {a : Int} (ha : 0 ≤ a) (ha' : a < (s.nodes.length : Int)) (b : Bool) : ∀ (k : Nat) (xs : List VT) (ks : List (List UInt8)) (B : List UInt8) (p q : Nat) (R : List VT × List (List UInt8)), p ≤ B.length → xs.length ≤ 300 →
  q4k (q4x b (f a)) k xs ks B p = .ok (R, q) → ∃ zs ls, R = (xs ++ zs, ks ++ ls) ∧ xs.length + zs.length ≤ 300 ∧ Items s d b a zs ls ∧ p + (blkP zs.length (catI s.nodes b a ls zs)).length ≤ q
 | 0, xs, ks, B, p, q, R, hp, hx, h => by
   rw [q4k] at h
   exact (q63 h).elim
 | k + 1, xs, ks, B, p, q, R, hp, hx, h => by
   rw [q4k] at h
   obtain ⟨m, r, h1, h2⟩ := q2i h
   obtain ⟨hm, hl⟩ := count_ok hx h1
   have hr := ((j3n _).fwd hp h1).2
   have h0 : (vput 0).length = 1 := by rw [vput, show zigN 0 = 0 from rfl, q60 (by decide)]; rfl
   split at h2
   · rename_i hm0
     subst hm0
     obtain ⟨rfl, rfl⟩ := q25 h2
     refine ⟨[], [], by simp, by simpa using hx, ⟨by simp, by simp, by simp⟩, ?_⟩
     rw [blkP, if_pos (show ([] : List VT).length = 0 from rfl)]
     exact hl
   · rename_i hm0
     obtain ⟨Q, r2, h3, h4⟩ := q2i h2
     obtain ⟨zs, ls, rfl, e2, e3, e4⟩ := row_ok hf H ha ha' b m xs ks B r r2 Q hr h3
     obtain ⟨ys, js, e5, e6, e7, e8⟩ := blks_ok hf H ha ha' b k _ _ B r2 q R ((j5t (j2b b (hf a)) _ _ _).fwd hr h3).2 (by simp only [List.length_append]; omega) h4
     simp only [] at e5 e6
     refine ⟨zs ++ ys, ls ++ js, by rw [e5]; simp, by rw [List.length_append] at e6 ⊢; omega, e3.app e7, ?_⟩
     have hz : zs.length ≠ 0 := by omega
     have hN : (zs ++ ys).length = zs.length + ys.length := List.length_append
     rw [blkP, if_neg (by omega), j8d s.nodes b a ls js zs ys (fun hb => by have := e3.len; rwa [if_pos hb] at this)]
     generalize (zs ++ ys).length = N at hN ⊢
     simp only [List.length_append, h0]
     rw [blkP] at e8
     rw [List.length_append] at e6
     by_cases hy : ys.length = 0
     · obtain rfl := List.eq_nil_of_length_eq_zero hy
       have hj : js = [] := by
        have := e7.len
        simp at this
        exact this
       subst hj
       have hc0 : (catI s.nodes b a [] []).length = 0 := by
        unfold catI
        split
        · rw [j25]; rfl
        · rw [j0y]; rfl
       rw [if_pos (show ([] : List VT).length = 0 from rfl), h0] at e8
       have : N = m := by simpa [e2] using hN
       rw [hc0, this]
       omega
     · rw [if_neg hy, List.length_append, List.length_append, h0] at e8
       have h5 := j4q (m : Int)
       have h6 := j4q (ys.length : Int)
       have h7 := z1t (m := N) (by omega)
       omega
theorem j4o {d : Nat} : ∀ (xs : List VT) (n : Nat), n ≤ d + 1 → (∀ x ∈ xs, q2l x ≤ d) → q3x n xs ≤ d + 1
 | [], n, hn, _ => by rw [q3x]; exact hn
 | x :: xs, n, hn, h => by
   rw [q3x]
   have := h x (by simp)
   exact j4o xs _ (by omega) fun y hy => h y (by simp [hy])
theorem j8r (ns : List NT) (a : Int) : ∀ xs : List VT, (∀ x ∈ xs, isM ns a x = true) → q1x ns (fun _ => a) xs = true
 | [], _ => by rw [q1x]
 | x :: xs, h => by rw [q1x, h x (by simp), j8r ns a xs fun y hy => h y (by simp [hy])]; rfl
theorem leaf_ok {s : ST} (hr : q1s s = true) {a : Int} {nd : NT} (hn : s.nodes[a.toNat]? = some nd) (hk : q3m nd.kind = false) (d : Nat) {B : List UInt8} {p q : Nat} {v : VT} (h : q1w nd B p = .ok (v, q)) : Fine s d a v ∧ p + (encP s.nodes a v).length ≤ q := by
 have hN := j06 hr nd (List.mem_of_getElem? hn)
 have hk9 : nd.kind ≠ 9 ∧ nd.kind ≠ 11 ∧ nd.kind ≠ 12 ∧ nd.kind ≠ 13 := by
  unfold q3m at hk
  simp at hk
  omega
 have key : ∀ (n b : Int) (l : List UInt8), v = .mk nd.kind n b l [] [] → q3a nd nd.kind n b l 0 [] = true → (0 ≤ b ∧ b < 18446744073709551616) → (-9223372036854775808 ≤ n ∧ n ≤ 9223372036854775807) → l.length ≤ 20000 → p + (q2k nd nd.kind n b l).length ≤ q → Fine s d a v ∧ p + (encP s.nodes a v).length ≤ q := by
  rintro n b l rfl hh hb hn' hl hq
  refine ⟨⟨?_, ?_, ⟨hb, trivial⟩, ⟨hn', trivial⟩, ⟨hb, by omega, by simp, by simp, by simp, trivial⟩⟩, ?_⟩
  · rw [q67 hn, List.length_nil, hh, q1x]; rfl
  · rw [q2l, if_neg (by omega)]; exact Nat.zero_le _
  · rw [j0z hn, if_neg hk9.1, if_neg hk9.2.1, if_neg hk9.2.2.1, if_neg hk9.2.2.2]
    exact hq
 unfold q1w at h
 by_cases h2 : nd.kind = 2
 · rw [if_pos h2] at h
   obtain ⟨n, r, h3, h4⟩ := q2i h
   obtain ⟨h5, rfl⟩ := q25 h4
   obtain ⟨h6, rfl⟩ := bool_ok h3
   refine key n 0 [] h5.symm ?_ (by decide) (by omega) (by simp) ?_
   · unfold q3a q2y; rw [h2]; rcases h6 with rfl | rfl <;> simp
   · simp [q2k, h2]
 rw [if_neg h2] at h
 by_cases h3 : nd.kind = 3
 · rw [if_pos h3] at h
   obtain ⟨n, r, h4, h5⟩ := q2i h
   obtain ⟨h6, rfl⟩ := q25 h5
   obtain ⟨rfl, h7, h8⟩ := int_ok h4
   refine key n 0 [] h6.symm ?_ (by decide) (by omega) (by simp) ?_
   · unfold q3a q2y; rw [h3]; simp [h7, h8]
   · simp [q2k, h3]
 rw [if_neg h3] at h
 by_cases h4 : nd.kind = 4
 · rw [if_pos h4] at h
   obtain ⟨n, r, h5, h6⟩ := q2i h
   obtain ⟨h7, rfl⟩ := q25 h6
   obtain ⟨rfl, h8⟩ := j2f h5
   refine key n 0 [] h7.symm ?_ (by decide) h8 (by simp) ?_
   · unfold q3a q2y; rw [h4]; simp
   · simp [q2k, h4]
 rw [if_neg h4] at h
 by_cases h5 : nd.kind = 5
 · rw [if_pos h5] at h
   obtain ⟨b, r, h6, h7⟩ := q2i h
   obtain ⟨h8, rfl⟩ := q25 h7
   obtain ⟨h9, h10, rfl⟩ := bits_ok h6
   have h10' : b < 4294967296 := h10
   refine key 0 b [] h8.symm ?_ (by omega) (by decide) (by simp) ?_
   · unfold q3a q2y; rw [h5]; simp [h10']
   · simp [q2k, h5, q5q]
 rw [if_neg h5] at h
 by_cases h6 : nd.kind = 6
 · rw [if_pos h6] at h
   obtain ⟨b, r, h7, h8⟩ := q2i h
   obtain ⟨h9, rfl⟩ := q25 h8
   obtain ⟨h10, h11, rfl⟩ := bits_ok h7
   have h11' : b < 18446744073709551616 := h11
   refine key 0 b [] h9.symm ?_ (by omega) (by decide) (by simp) ?_
   · unfold q3a q2y; rw [h6]; simp
   · simp [q2k, h6, q5q]
 rw [if_neg h6] at h
 by_cases h7 : nd.kind = 7
 · rw [if_pos h7] at h
   obtain ⟨l, r, h8, h9⟩ := q2i h
   obtain ⟨h10, rfl⟩ := q25 h9
   obtain ⟨h11, rfl⟩ := j8a h8
   refine key 0 0 l h10.symm ?_ (by decide) (by decide) h11 ?_
   · unfold q3a q2y; rw [h7]; simp [h11]
   · simp [q2k, h7]
 rw [if_neg h7] at h
 by_cases h8 : nd.kind = 8
 · rw [if_pos h8] at h
   obtain ⟨l, r, h9, h10⟩ := q2i h
   obtain ⟨h11, rfl⟩ := q25 h10
   obtain ⟨h12, h13, rfl⟩ := text_ok h9
   refine key 0 0 l h11.symm ?_ (by decide) (by decide) h12 ?_
   · unfold q3a q2y; rw [h8]; simp [h12, h13]
   · simp [q2k, h8]
 rw [if_neg h8] at h
 by_cases h14 : nd.kind = 14
 · rw [if_pos h14] at h
   obtain ⟨l, r, h9, h10⟩ := q2i h
   obtain ⟨h11, rfl⟩ := q25 h10
   obtain ⟨h12, rfl⟩ := j3z h9
   unfold q2h at hN
   simp only [Bool.and_eq_true] at hN
   have hS := hN.2.2
   rw [h14, if_neg (by decide), if_neg (by decide), if_pos rfl] at hS
   simp only [Bool.and_eq_true, decide_eq_true_eq] at hS
   refine key 0 0 l h11.symm ?_ (by decide) (by decide) (by omega) ?_
   · unfold q3a q2y; rw [h14]; simp; omega
   · simp [q2k, h14, h12]
 rw [if_neg h14] at h
 by_cases h10 : nd.kind = 10
 · rw [if_pos h10] at h
   obtain ⟨n, r, h11, h12⟩ := q2i h
   obtain ⟨h13, rfl⟩ := q25 h12
   obtain ⟨h15, h16, h17⟩ := j9w h11
   obtain ⟨rfl, h18, h19⟩ := int_ok h17
   refine key n 0 [] h13.symm ?_ (by decide) (by omega) (by simp) ?_
   · unfold q3a q2y; rw [h10]; simp [h15, h16]
   · simp [q2k, h10]
 rw [if_neg h10] at h
 obtain ⟨h13, rfl⟩ := q25 h
 refine key 0 0 [] h13.symm ?_ (by decide) (by decide) (by simp) ?_
 · unfold q3a q2y
   simp [h2, h3, h5, h8, h14, h10, hk9.1, hk9.2.1, hk9.2.2.1, hk9.2.2.2]
 · simp [q2k, h2, h3, h4, h5, h6, h7, h8, h14, h10]
theorem dec_ok {s : ST} (hr : q1s s = true) : ∀ d : Nat, FineR s d (decM s.nodes d) := by
 intro d
 induction d with
 | zero =>
   intro a B p q v ha ha' hp h
   obtain ⟨nd, hnd⟩ : ∃ nd, s.nodes[a.toNat]? = some nd := ⟨_, List.getElem?_eq_getElem (show a.toNat < s.nodes.length by omega)⟩
   cases hk : q3m nd.kind with
   | true =>
     rw [j8m hnd hk] at h
     exact (q63 h).elim
   | false =>
     rw [j15 hnd hk] at h
     exact leaf_ok hr hnd hk 0 h
 | succ d ih =>
   intro a B p q v ha ha' hp h
   obtain ⟨nd, hnd⟩ : ∃ nd, s.nodes[a.toNat]? = some nd := ⟨_, List.getElem?_eq_getElem (show a.toNat < s.nodes.length by omega)⟩
   cases hk : q3m nd.kind with
   | false =>
     rw [j15 hnd hk] at h
     exact leaf_ok hr hnd hk _ h
   | true =>
   rw [j47 hnd hk] at h
   have hN := j06 hr nd (List.mem_of_getElem? hnd)
   have hkid := q8d (j1t hr) nd (List.mem_of_getElem? hnd)
   have hfair := q66 s.nodes d
   unfold q2h at hN
   simp only [Bool.and_eq_true] at hN
   have hS := hN.2.2
   unfold j1r at h
   by_cases h9 : nd.kind = 9
   · rw [if_pos h9] at h hS
     obtain ⟨ys, r, h1, h2⟩ := q2i h
     obtain ⟨rfl, rfl⟩ := q25 h2
     obtain ⟨zs, e1, e2, e3, e4, e5⟩ := j8y hfair ih nd.fields [] B p r ys (fun t ht => hkid t.type (by unfold q1e; rw [if_pos h9]; exact List.mem_map_of_mem ht)) hp h1
     rw [List.nil_append] at e1
     subst e1
     unfold q56 at hS
     simp only [Bool.and_eq_true, decide_eq_true_eq] at hS
     have hat : q08 nd 0 = tyL nd.fields := by funext i; rw [q08, if_pos h9]; rfl
     refine ⟨⟨?_, ?_, ⟨by decide, j66 fun x hx => (e4 x hx).2.1⟩, ⟨by decide, j7a fun x hx => (e4 x hx).2.2.1⟩, ⟨by decide, by simp, by simp, by simp, by omega, j7c fun x hx => (e4 x hx).2.2.2⟩⟩, ?_⟩
     · rw [q67 hnd, hat, e3, Bool.and_true]
       unfold q3a q2y
       rw [h9, e2]
       simp
       omega
     · rw [q2l, if_pos (by omega)]
       exact j4o _ _ (by omega) fun x hx => (e4 x hx).1
     · rw [j0z hnd, if_pos h9]
       exact e5
   rw [if_neg h9] at h
   by_cases h13 : nd.kind = 13
   · rw [if_pos h13] at h
     obtain ⟨n, r, h1, h2⟩ := q2i h
     obtain ⟨v', r2, h3, h4⟩ := q2i h2
     obtain ⟨rfl, rfl⟩ := q25 h4
     obtain ⟨p1, p2, p3⟩ := j9w h1
     obtain ⟨rfl, p4, p5⟩ := j2f p3
     have hbl : n.toNat < nd.branches.length := by omega
     have hba : nd.branches[n.toNat]? = some (q2x nd n) := by rw [q2x, List.getElem?_eq_getElem hbl]
     have hb := hkid (q2x nd n) (by unfold q1e; rw [if_neg h9, if_neg (by omega), if_pos h13]; exact List.mem_of_getElem? hba)
     obtain ⟨hv, hl⟩ := ih _ B _ r2 v' hb.1 hb.2 (q36.fwd hp p3).2 h3
     have hat : q08 nd n 0 = q2x nd n := by rw [q08, if_neg h9, if_pos h13]
     refine ⟨⟨?_, ?_, ⟨by decide, hv.inr, trivial⟩, ⟨by omega, hv.lng, trivial⟩, ⟨by decide, by simp, by simp, by simp, by simp, hv.sm, trivial⟩⟩, ?_⟩
     · rw [q67 hnd, q1x, hat, hv.is, q1x]
       unfold q3a q2y
       rw [h13]
       simp [p1, p2]
     · rw [q2l, if_pos (by omega)]
       exact j4o _ _ (by omega) fun x hx => by simp at hx; subst hx; exact hv.deep
     · rw [j0z hnd, if_neg h9, if_neg (by omega), if_neg (by omega), if_pos h13, q7w, j0y, List.append_nil, List.length_append]
       omega
   rw [if_neg h13] at h
   have h1112 : nd.kind = 11 ∨ nd.kind = 12 := by
    unfold q3m at hk
    simp at hk
    omega
   obtain ⟨R, r, h1, h2⟩ := q2i h
   obtain ⟨rfl, rfl⟩ := q25 h2
   have hb := hkid nd.items (by unfold q1e; rw [if_neg h9, if_pos h1112]; simp)
   obtain ⟨zs, ls, rfl, e2, e3, e4⟩ := blks_ok hfair ih hb.1 hb.2 (nd.kind == 12) 301 [] [] B p r R hp (by simp) h1
   have hat : q08 nd 0 = fun _ => nd.items := by funext i; rw [q08, if_neg h9, if_neg h13]
   have hll := e3.len
   simp only [List.nil_append, List.length_nil, Nat.zero_add] at *
   have hkl : ls.length ≤ 300 := by rw [hll]; split <;> omega
   have hky : ∀ y ∈ ls, y.length ≤ 20000 := fun y hy => by
    have := e3.keys y hy
    unfold keyM at this
    simp at this
    exact this.1
   refine ⟨⟨?_, ?_, ⟨by decide, j66 fun x hx => (e3.each x hx).inr⟩, ⟨by decide, j7a fun x hx => (e3.each x hx).lng⟩, ⟨by decide, by simp, by omega, fun y hy => by have := hky y hy; omega, by omega, j7c fun x hx => (e3.each x hx).sm⟩⟩, ?_⟩
   · rw [q67 hnd, hat, j8r s.nodes nd.items zs fun x hx => (e3.each x hx).is, Bool.and_true]
     have hka : ls.all keyM = true := List.all_eq_true.2 e3.keys
     unfold q3a q2y
     rcases h1112 with h11 | h12
     · have hl0 : ls = [] := by rw [h11] at hll; simpa using hll
       rw [h11, hl0]
       simp
       omega
     · have hl0 : ls.length = zs.length := by rw [h12] at hll; simpa using hll
       rw [h12, hka, hl0]
       simp
       omega
   · rw [q2l, if_pos (by omega)]
     exact j4o _ _ (by omega) fun x hx => (e3.each x hx).deep
   · rw [j0z hnd, if_neg h9]
     unfold catI at e4
     rcases h1112 with h11 | h12
     · rw [if_pos h11]
       rw [h11] at e4
       exact e4
     · have hl0 : ls.length = zs.length := by rw [h12] at hll; simpa using hll
       rw [if_neg (by omega), if_pos h12, hl0, Nat.min_self]
       rw [h12] at e4
       exact e4
def v0 : VT := .mk 0 0 0 [] [] []
noncomputable def q7e (s : ST) (a : Int) (B : List UInt8) (p : Int) : VT × Int × Int :=
 if a < 0 ∨ (s.nodes.length : Int) ≤ a ∨ p < 0 ∨ (B.length : Int) < p ∨ q1s s = false then (v0, p, 2)
 else match decM s.nodes 20 a B p.toNat with
  | .error e => (v0, p, e)
  | .ok (v, q) => (v, (q : Int), 0)
noncomputable def q4i (s : ST) (a : Int) (B : List UInt8) : VT × Int :=
 let t := q7e s a B 0
 if t.2.2 ≠ 0 then (v0, t.2.2) else if t.2.1 < (B.length : Int) then (v0, 12) else (t.1, 0)

theorem val_of {ns : List NT} {r : Int} {B : List UInt8} {dep : Nat} {f : Int → Rd VT} (H : ∀ a : Int, 0 ≤ a → a < (ns.length : Int) → ∀ p e, p ≤ B.length → ValE ns r B a dep (f a) p e) :
  ∃ val : Int → Nat → Int → VT × Nat × Int, ∀ a : Int, 0 ≤ a → a < (ns.length : Int) → (∀ p e, p ≤ B.length → Got (f a B p) B e (val a p e).1 (val a p e).2.1 (val a p e).2.2) ∧ ValT ns r B a dep (val a) := by
 have key : ∀ (a : Int) (p : Nat) (e : Int), ∃ t : VT × Nat × Int, 0 ≤ a → a < (ns.length : Int) → p ≤ B.length → Got (f a B p) B e t.1 t.2.1 t.2.2 ∧
   ToldM Tryz.prog 62 [.ref 1000000 1 0 0, .c (.v (.int .i64 a)), .c (.v (.int .i64 (dep : Int)))] [dB ns r B p e] [some (dB ns r B t.2.1 t.2.2)] t.1.av := by
  intro a p e
  by_cases h : 0 ≤ a ∧ a < (ns.length : Int) ∧ p ≤ B.length
  · obtain ⟨v, q, e', h1, h2⟩ := H a h.1 h.2.1 p e h.2.2
    exact ⟨(v, q, e'), fun _ _ _ => ⟨h1, h2⟩⟩
  · exact ⟨(v0, 0, 0), fun h1 h2 h3 => absurd ⟨h1, h2, h3⟩ h⟩
 refine ⟨fun a p e => Classical.choose (key a p e), fun a h1 h2 => ⟨fun p e h3 => ?_, fun p e h3 => ?_⟩⟩
 · exact (Classical.choose_spec (key a p e) h1 h2 h3).1
 · exact (Classical.choose_spec (key a p e) h1 h2 h3).2
theorem j8n (ns : List NT) (r : Int) (B : List UInt8) (hB : B.length ≤ 1000000) (a : Nat) (nd : NT) (hnd : ns[a]? = some nd) (hN : q2h ns nd = true) (hk : q3m nd.kind = false) (dep : Nat) (p : Nat) (hp : p ≤ B.length) (e : Int) : ValE ns r B (a : Int) dep (q1w nd) p e := by
 unfold q2h at hN
 simp only [Bool.and_eq_true, decide_eq_true_eq] at hN
 obtain ⟨⟨k1, k2, _⟩, _, hS⟩ := hN
 unfold q3m at hk
 simp at hk
 by_cases h2 : nd.kind = 2
 · exact z3m ns r B hB a nd hnd h2 dep p hp e
 by_cases h3 : nd.kind = 3
 · exact z3n ns r B hB a nd hnd h3 dep p hp e
 by_cases h4 : nd.kind = 4
 · exact z3o ns r B hB a nd hnd h4 dep p hp e
 by_cases h5 : nd.kind = 5
 · exact z3p ns r B hB a nd hnd h5 dep p hp e
 by_cases h6 : nd.kind = 6
 · exact z3q ns r B hB a nd hnd h6 dep p hp e
 by_cases h7 : nd.kind = 7
 · exact z3r ns r B hB a nd hnd h7 dep p hp e
 by_cases h8 : nd.kind = 8
 · exact z3s ns r B hB a nd hnd h8 dep p hp e
 by_cases h14 : nd.kind = 14
 · rw [h14, if_neg (by decide), if_neg (by decide), if_pos rfl] at hS
   simp only [Bool.and_eq_true, decide_eq_true_eq] at hS
   exact z3k ns r B hB a nd hnd h14 ⟨hS.1, by omega⟩ dep p hp e
 by_cases h10 : nd.kind = 10
 · exact z3j ns r B hB a nd hnd h10 dep p hp e
 · exact z3l ns r B a nd hnd (by omega) dep p hp e
theorem z3e (ns : List NT) (r : Int) (B : List UInt8) (hB : B.length ≤ 1000000) (nd : NT) (dep : Nat) {f : Rd VT} (hf : Fair f) (val : Nat → Int → VT × Nat × Int) (hg : ∀ p e, p ≤ B.length → Got (f B p) B e (val p e).1 (val p e).2.1 (val p e).2.2) (hV : ValT ns r B nd.items dep val) (p : Nat) (hp : p ≤ B.length) (e : Int) :
  ∃ (xs : List VT) (ks : List (List UInt8)) (q : Nat) (e' : Int), Got (q4k (q4x (nd.kind == 12) f) 301 [] [] B p) B e (xs, ks) q e' ∧
   ToldM Tryz.prog 170 [.ref 1000000 1 0 0, nd.av, .c (.v (.int .i64 (dep : Int)))] [dB ns r B p e] [some (dB ns r B q e')] (.tup [.c (.sl 6 (xs.map VT.cells)), .c (.sl 1 (ks.map sPV))]) := by
 by_cases h : e = 0
 · subst h
   have key : ∀ h p : Nat, ∃ t : Nat × Nat × Int, h ≤ 300 → p ≤ B.length → Got (q4w h B p) B 0 t.1 t.2.1 t.2.2 ∧ (t.2.2 ≠ 0 → t.1 = 0) ∧
     ToldM Tryz.prog 208 [.ref 1000000 1 0 0, .c (.v (.int .i64 (h : Int)))] [dB ns r B p 0] [some (dB ns r B t.2.1 t.2.2)] (.c (.v (.int .i64 (t.1 : Int)))) := by
    intro h p
    by_cases hh : h ≤ 300 ∧ p ≤ B.length
    · obtain ⟨m, q, e', h1, h2, h3⟩ := z3c ns r B hB p hh.2 0 h hh.1
      exact ⟨(m, q, e'), fun _ _ => ⟨h1, h2, h3⟩⟩
    · exact ⟨(0, 0, 0), fun h1 h2 => absurd ⟨h1, h2⟩ hh⟩
   obtain ⟨cnt, hcnt⟩ : ∃ cnt : Nat → Nat → Nat × Nat × Int, ∀ h p : Nat, h ≤ 300 → p ≤ B.length → Got (q4w h B p) B 0 (cnt h p).1 (cnt h p).2.1 (cnt h p).2.2 ∧ ((cnt h p).2.2 ≠ 0 → (cnt h p).1 = 0) ∧
     ToldM Tryz.prog 208 [.ref 1000000 1 0 0, .c (.v (.int .i64 (h : Int)))] [dB ns r B p 0] [some (dB ns r B (cnt h p).2.1 (cnt h p).2.2)] (.c (.v (.int .i64 ((cnt h p).1 : Int)))) :=
    ⟨fun h p => Classical.choose (key h p), fun h p h1 h2 => Classical.choose_spec (key h p) h1 h2⟩
   have hcl : ∀ h p, h ≤ 300 → p ≤ B.length → (cnt h p).1 + h ≤ 300 ∧ (cnt h p).2.1 ≤ B.length ∧ ((cnt h p).2.2 ≠ 0 → (cnt h p).1 = 0) := by
    intro h p h1 h2
    obtain ⟨g1, g2, _⟩ := hcnt h p h1 h2
    refine ⟨?_, g1.le, g2⟩
    by_cases h0 : (cnt h p).2.2 = 0
    · exact j8k ((g1.is (j3n _)).1 h0) h1
    · rw [g2 h0]; omega
   have hT := z3g ns r B hB nd dep val hV (fun p e hp => (hg p e hp).le) cnt (fun h p h1 h2 => (hcnt h p h1 h2).2.2) hcl p hp _ rfl
   have hG := j75 (j2b (nd.kind == 12) hf) (itemS_ok hf hg (nd.kind == 12)) (cnt := cnt) (fun h p h1 h2 => ⟨(hcnt h p h1 h2).1, (hcnt h p h1 h2).2.1⟩) 301 [] [] p hp (by simp)
   exact ⟨_, _, _, _, hG, hT⟩
 · exact ⟨[], [], p, e, ⟨hp, fun _ => rfl, fun x h0 => absurd h0 h, fun w q' h0 => absurd h0 h⟩, z3f ns r B hB nd dep p hp e h⟩
theorem z3u (s : ST) (hr : q1s s = true) (r : Int) (B : List UInt8) (hB : B.length ≤ 1000000) : ∀ (d : Nat), d ≤ 20 → ∀ a : Int, 0 ≤ a → a < (s.nodes.length : Int) → ∀ p e, p ≤ B.length → ValE s.nodes r B a (20 - d) (decM s.nodes d a) p e := by
 intro d
 induction d with
 | zero =>
   intro _ a ha ha' p e hp
   obtain ⟨m, rfl⟩ : ∃ m : Nat, a = (m : Int) := ⟨a.toNat, by omega⟩
   obtain ⟨nd, hnd⟩ : ∃ nd, s.nodes[m]? = some nd := ⟨_, List.getElem?_eq_getElem (show m < s.nodes.length by omega)⟩
   have hnd' : s.nodes[((m : Int)).toNat]? = some nd := by rw [Int.toNat_natCast]; exact hnd
   cases hk : q3m nd.kind with
   | true =>
     rw [j8m hnd' hk]
     exact z3t s.nodes r B m nd hnd (by unfold q3m at hk; simp at hk; omega) p hp e
   | false =>
     rw [j15 hnd' hk]
     exact j8n s.nodes r B hB m nd hnd (j06 hr nd (List.mem_of_getElem? hnd)) hk _ p hp e
 | succ d ih =>
   intro hd a ha ha' p e hp
   obtain ⟨m, rfl⟩ : ∃ m : Nat, a = (m : Int) := ⟨a.toNat, by omega⟩
   obtain ⟨nd, hnd⟩ : ∃ nd, s.nodes[m]? = some nd := ⟨_, List.getElem?_eq_getElem (show m < s.nodes.length by omega)⟩
   have hnd' : s.nodes[((m : Int)).toNat]? = some nd := by rw [Int.toNat_natCast]; exact hnd
   have hmem := List.mem_of_getElem? hnd
   have hN := j06 hr nd hmem
   cases hk : q3m nd.kind with
   | false =>
     rw [j15 hnd' hk]
     exact j8n s.nodes r B hB m nd hnd hN hk _ p hp e
   | true =>
   rw [j47 hnd' hk]
   have hkk : nd.kind = 9 ∨ nd.kind = 11 ∨ nd.kind = 12 ∨ nd.kind = 13 := by unfold q3m at hk; simp at hk; omega
   have hkid := q8d (j1t hr) nd hmem
   have hdep : 20 - (d + 1) < 20 := by omega
   have hdep1 : 20 - (d + 1) + 1 = 20 - d := by omega
   obtain ⟨val, hval⟩ := val_of (ih (by omega))
   rw [← hdep1] at hval
   have hfair := q66 s.nodes d
   unfold q2h at hN
   simp only [Bool.and_eq_true, decide_eq_true_eq] at hN
   have hS := hN.2.2
   unfold j1r
   by_cases h9 : nd.kind = 9
   · rw [if_pos h9] at hS ⊢
     unfold q56 at hS
     simp only [Bool.and_eq_true, decide_eq_true_eq] at hS
     have hkf : ∀ t ∈ nd.fields, 0 ≤ t.type ∧ t.type < (s.nodes.length : Int) := fun t ht => hkid t.type (by unfold q1e; rw [if_pos h9]; exact List.mem_map_of_mem ht)
     have hG := q59 (j5s hfair nd.fields []) (fun xs => VT.mk nd.kind 0 0 [] xs []) (j81 hfair nd.fields (fun t ht => (hval t.type (hkf t ht).1 (hkf t ht).2).1) [] p e hp)
     have hT := z3a s.nodes r B hB nd h9 (by omega) (20 - (d + 1) + 1) val (fun t ht => (hval t.type (hkf t ht).1 (hkf t ht).2).2) (fun t ht p e hp => ((hval t.type (hkf t ht).1 (hkf t ht).2).1 p e hp).le) p hp e _ rfl
     exact ⟨_, _, _, hG, j3c s.nodes r B m nd hnd hkk _ hdep p _ e _ _ hT⟩
   rw [if_neg h9]
   by_cases h13 : nd.kind = 13
   · rw [if_pos h13]
     have hbk : ∀ b ∈ nd.branches, 0 ≤ b ∧ b < (s.nodes.length : Int) := fun b hb => hkid b (by unfold q1e; rw [if_neg h9, if_neg (by omega), if_pos h13]; exact hb)
     rw [h13, if_neg (by decide), if_neg (by decide), if_neg (by decide), if_pos rfl] at hS
     unfold j09 at hS
     simp only [Bool.and_eq_true, decide_eq_true_eq] at hS
     have hT := z29 s.nodes r B hB nd h13 (by omega) (20 - (d + 1) + 1) val (fun b hb => (hval b (hbk b hb).1 (hbk b hb).2).2) p hp e _ rfl _ rfl
     have hP := j6e q36 nd.branches.length hp e
     have hin := plcS_in (f := q2r) (B := B) (many := nd.branches.length) (p := p) (e := e)
     generalize plcS q2r B nd.branches.length p e = P at hT hP hin
     by_cases h0 : P.2.2 = 0
     · rw [if_pos h0] at hT
       obtain ⟨n1, n2⟩ := hin h0
       have hlt : P.1.toNat < nd.branches.length := by omega
       have hba : nd.branches[P.1.toNat]? = some (q2x nd P.1) := by rw [q2x, List.getElem?_eq_getElem hlt]
       have hb := hbk _ (List.mem_of_getElem? hba)
       have hX := (hval _ hb.1 hb.2).1 P.2.1 0 hP.le
       have he : e = 0 := Decidable.not_not.1 fun h => h ((hP.no h).symm.trans h0)
       subst he
       have hPi := hP.is (j2c q36 _)
       have hXi := hX.is (hfair _)
       refine ⟨_, _, _, ?_, j3c s.nodes r B m nd hnd hkk _ hdep p _ 0 _ _ hT⟩
       refine q5s hX.le (fun h1 => ?_) fun h1 => ?_
       · rw [q2c (hPi.1 h0), q2c (hXi.1 h1)]; rfl
       · rw [q2c (hPi.1 h0), q24 (hXi.2 h1)]
     · rw [if_neg h0] at hT
       refine ⟨_, _, _, ?_, j3c s.nodes r B m nd hnd hkk _ hdep p _ e _ _ hT⟩
       by_cases he : e = 0
       · subst he
         have hPi := hP.is (j2c q36 _)
         exact q5s hP.le (fun h1 => absurd h1 h0) fun h1 => by rw [q24 (hPi.2 h0)]
       · exact ⟨hP.le, hP.no, fun x h1 => absurd h1 he, fun w q' h1 => absurd h1 he⟩
   · rw [if_neg h13]
     have hk2 : nd.kind = 11 ∨ nd.kind = 12 := by omega
     have hb := hkid nd.items (by unfold q1e; rw [if_neg h9, if_pos hk2]; simp)
     obtain ⟨xs, ks, q, e', hG, hI⟩ := z3e s.nodes r B hB nd (20 - (d + 1) + 1) (hfair nd.items) (val nd.items) (hval _ hb.1 hb.2).1 (hval _ hb.1 hb.2).2 p hp e
     have hT := z28 s.nodes r B nd hk2 (20 - (d + 1) + 1) p q e e' xs ks hI
     exact ⟨_, _, _, q59 (j5q (j2b _ (hfair _)) _ _ _) (fun q => VT.mk nd.kind 0 0 [] q.1 q.2) hG, j3c s.nodes r B m nd hnd hkk _ hdep p _ e _ _ hT⟩

theorem q74 {h : Nat → Option Blkd} {K : Nat → Bool} : Frz K h (.agg [.c (.v (.int .i64 0)), .c (.v (.int .i64 0)), .c (.v (.int .u64 0)), .c (.v (.slice none 0 0)), .c (.v (.slice none 0 0)), .c (.v (.slice none 0 0))]) v0.av := by
 rw [VT.av_eq, v0, q03]
 exact Frz.aggL (.cons (.c _) (.cons (.c _) (.cons (.c _) (.cons (.nil 1) (.cons (.nil 6) (.cons (.nil 1) .nil))))))
theorem j1v {s : ST} {a : Int} {B : List UInt8} {p : Int} (h : a < 0 ∨ (s.nodes.length : Int) ≤ a ∨ p < 0 ∨ (B.length : Int) < p ∨ q1s s = false) : q7e s a B p = (v0, p, 2) := by unfold q7e; rw [if_pos h]
theorem j2m {s : ST} {a : Int} {B : List UInt8} {p : Int} (h : ¬ (a < 0 ∨ (s.nodes.length : Int) ≤ a ∨ p < 0 ∨ (B.length : Int) < p ∨ q1s s = false)) : q7e s a B p = match decM s.nodes 20 a B p.toNat with
  | .error e => (v0, p, e)
  | .ok (v, q) => (v, (q : Int), 0) := by unfold q7e; rw [if_neg h]; try rfl
theorem j8q (v : VT) : (v.cells.map AV.c).drop 6 = [] := List.drop_eq_nil_of_le (by rw [List.length_map, q1b]; exact Nat.le_refl _)
theorem z3i (s : ST) (hs : s.sm 1000000) (a : Int) (B : List UInt8) (hB : B.length ≤ 1000000) (p : Int) :
  Told Tryz.prog 28 [s.av, .c (.v (.int .i64 a)), .c (.sl 1 (q0e B)), .c (.v (.int .i64 p))] (.tup [(q7e s a B p).1.av, .c (.v (.int .i64 (q7e s a B p).2.1)), .c (.v (.int .i64 (q7e s a B p).2.2))]) := by
 have hR := z0s s hs
 have hbl := q5f B
 by_cases h1 : a < 0
 · rw [j1v (.inl h1)]
   have e1 : decide (a < 0) = true := by simpa using h1
   rw [ST.av_eq]
   refine VC.toldP j01 Tryz.func28 rfl Tryz.ntmps28 fun hb => ?_
   clear hb
   refine q0a (And.intro @q0i (And.intro hbl e1)) ?_
   refine retX Tryz.results28 ?_
   exact ⟨q74, .c _, .c _⟩
 have e1 : decide (a < 0) = false := by simpa using h1
 by_cases h2 : (s.nodes.length : Int) ≤ a
 · rw [j1v (.inr (.inl h2))]
   have e2 : decide (a ≥ (s.nodes.length : Int)) = true := by simpa using h2
   rw [ST.av_eq]
   refine VC.toldP j01 Tryz.func28 rfl Tryz.ntmps28 fun hb => ?_
   clear hb
   refine q0a (And.intro @q0i (And.intro hbl (And.intro e1 e2))) ?_
   refine retX Tryz.results28 ?_
   exact ⟨q74, .c _, .c _⟩
 have e2 : decide (a ≥ (s.nodes.length : Int)) = false := by simpa using h2
 by_cases h3 : p < 0
 · rw [j1v (.inr (.inr (.inl h3)))]
   have e3 : decide (p < 0) = true := by simpa using h3
   rw [ST.av_eq]
   refine VC.toldP j01 Tryz.func28 rfl Tryz.ntmps28 fun hb => ?_
   clear hb
   refine q0a (And.intro @q0i (And.intro hbl (And.intro e1 (And.intro e2 e3)))) ?_
   refine retX Tryz.results28 ?_
   exact ⟨q74, .c _, .c _⟩
 have e3 : decide (p < 0) = false := by simpa using h3
 by_cases h4 : (B.length : Int) < p
 · rw [j1v (.inr (.inr (.inr (.inl h4))))]
   have e4 : decide (p > (B.length : Int)) = true := by simpa using h4
   rw [ST.av_eq]
   refine VC.toldP j01 Tryz.func28 rfl Tryz.ntmps28 fun hb => ?_
   clear hb
   refine q0a (And.intro @q0i (And.intro hbl (And.intro e1 (And.intro e2 (And.intro e3 e4))))) ?_
   refine retX Tryz.results28 ?_
   exact ⟨q74, .c _, .c _⟩
 have e4 : decide (p > (B.length : Int)) = false := by simpa using h4
 cases hr : q1s s with
 | false =>
   rw [j1v (.inr (.inr (.inr (.inr hr))))]
   rw [hr] at hR
   rw [ST.av_eq] at hR ⊢
   refine VC.toldP j01 Tryz.func28 rfl Tryz.ntmps28 fun hb => ?_
   clear hb
   refine q0a (And.intro @q0i (And.intro hbl (And.intro e1 (And.intro e2 (And.intro e3 e4))))) ?_
   refine q06 (And.intro @q02 @q0i) (hR) ?_
   refine q0m ?_
   refine retX Tryz.results28 ?_
   exact ⟨q74, .c _, .c _⟩
 | true =>
 rw [j2m (by rw [hr]; simp; omega)]
 rw [hr] at hR
 obtain ⟨m, rfl⟩ : ∃ m : Nat, p = (m : Int) := ⟨p.toNat, by omega⟩
 rw [Int.toNat_natCast]
 obtain ⟨v, q, e', hG, hT⟩ := z3u s hr s.root B hB 20 (Nat.le_refl _) a (by omega) (by omega) m 0 (by omega)
 have hi := hG.is (q66 s.nodes 20 a)
 rw [show ((20 - 20 : Nat) : Int) = 0 from rfl, VT.av_eq] at hT
 rw [ST.av_eq] at hR ⊢
 rw [q0i] at hR ⊢
 unfold dB at hT
 by_cases h0 : e' = 0
 · subst h0
   rw [hi.1 rfl]
   simp only []
   rw [VT.av_eq]
   refine VC.toldP j01 Tryz.func28 rfl Tryz.ntmps28 fun hb => ?_
   clear hb
   refine q0a (And.intro @q0i (And.intro hbl (And.intro e1 (And.intro e2 (And.intro e3 e4))))) ?_
   refine q06 (And.intro @q02 @q0i) (hR) ?_
   refine q0a (@q0i) ?_
   refine q0z [264] (hT) ?_
   have hvd := j8q v
   refine q0a (And.intro @q1b (And.intro @q1n (And.intro @q1i hvd))) ?_
   refine retX Tryz.results28 ?_
   refine ⟨⟨by simp [q1b], ?_⟩, .c _, .c _⟩
   (try rw [q1i])
   exact .cs _ _
 · rw [hi.2 h0]
   simp only []
   have e5 : (e' != 0) = true := by simpa using h0
   refine VC.toldP j01 Tryz.func28 rfl Tryz.ntmps28 fun hb => ?_
   clear hb
   refine q0a (And.intro @q0i (And.intro hbl (And.intro e1 (And.intro e2 (And.intro e3 e4))))) ?_
   refine q06 (And.intro @q02 @q0i) (hR) ?_
   refine q0a (@q0i) ?_
   refine q0z [264] (hT) ?_
   refine q0a (And.intro @q1b (And.intro @q1n (And.intro @q1i e5))) ?_
   refine retX Tryz.results28 ?_
   exact ⟨q74, .c _, .c _⟩
theorem j1f (s : ST) (hs : s.sm 1000000) (a : Int) (B : List UInt8) (hB : B.length ≤ 1000000) :
  Told Tryz.prog 30 [s.av, .c (.v (.int .i64 a)), .c (.sl 1 (q0e B))] (.tup [(q4i s a B).1.av, .c (.v (.int .i64 (q4i s a B).2))]) := by
 have hT := z3i s hs a B hB 0
 have hbl := q5f B
 unfold q4i
 generalize q7e s a B 0 = T at hT ⊢
 rw [ST.av_eq] at hT ⊢
 rw [q0i] at hT ⊢
 rw [VT.av_eq] at hT
 simp only []
 by_cases h1 : T.2.2 ≠ 0
 · rw [if_pos h1]
   have e1 : (T.2.2 != 0) = true := by simpa using h1
   refine VC.toldP ent_30 Tryz.func30 rfl Tryz.ntmps30 fun hb => ?_
   clear hb
   refine q0a (@q0i) ?_
   refine q0j (hT) ?_
   refine q0a (And.intro e1 (And.intro @q1b (And.intro @q1n @q1i))) ?_
   refine retX Tryz.results30 ?_
   exact ⟨q74, .c _⟩
 rw [if_neg h1]
 have e1 : (T.2.2 != 0) = false := by simpa using h1
 by_cases h2 : T.2.1 < (B.length : Int)
 · rw [if_pos h2]
   have e2 : decide (T.2.1 < (B.length : Int)) = true := by simpa using h2
   refine VC.toldP ent_30 Tryz.func30 rfl Tryz.ntmps30 fun hb => ?_
   clear hb
   refine q0a (@q0i) ?_
   refine q0j (hT) ?_
   refine q0a (And.intro e1 (And.intro e2 (And.intro hbl (And.intro @q1b (And.intro @q1n @q1i))))) ?_
   refine retX Tryz.results30 ?_
   exact ⟨q74, .c _⟩
 · rw [if_neg h2]
   have e2 : decide (T.2.1 < (B.length : Int)) = false := by simpa using h2
   rw [VT.av_eq]
   refine VC.toldP ent_30 Tryz.func30 rfl Tryz.ntmps30 fun hb => ?_
   clear hb
   refine q0a (@q0i) ?_
   refine q0j (hT) ?_
   have hvd := j8q T.1
   refine q0a (And.intro e1 (And.intro e2 (And.intro hbl (And.intro @q1b (And.intro @q1n (And.intro @q1i hvd)))))) ?_
   refine retX Tryz.results30 ?_
   refine ⟨⟨by simp [q1b], ?_⟩, .c _⟩
   (try rw [q1i])
   exact .cs _ _

noncomputable def ceq {α : Type} (a b : α) : Bool := @decide (a = b) (Classical.propDecidable _)
theorem q65 {α : Type} (a b : α) : ceq a b = true ↔ a = b := by simp [ceq]
theorem j43 {α : Type} (a b : α) : ceq a b = false ↔ a ≠ b := by simp [ceq]
theorem j14 {α : Type} (a : α) : ceq a a = true := (q65 a a).2 rfl

theorem eqfV_told {g : FuncId} {fs cs : List AV} (hp : AV.pureL fs = true) (hp' : AV.pureL cs = true) (xs ys : List VT) (hcall : ∀ x ∈ xs, ∀ y, Told Tryz.prog g (fs ++ ([x.av, y.av] ++ cs)) (.c (.v (.bool (ceq x y))))) :
  Told Tryz.prog 49 [.c (.sl 6 (xs.map VT.cells)), .c (.sl 6 (ys.map VT.cells)), .fn (.func g) fs cs] (.c (.v (.bool (ceq xs ys)))) := by
 refine VC.told ent_49 Tryz.func49 rfl Tryz.ntmps49 (by simp) (by simp [AV.pureB, AV.pureL, hp, hp']) rfl fun hb => ?_
 simp only [q5n, q5x, List.mem_cons, List.not_mem_nil, or_false, forall_eq_or_imp, forall_eq, List.length_map] at hb
 have h1 := hb.1.1
 have h2 := hb.2.1.1
 clear hb
 refine q0b ?_
 refine VC.cond (by rfl) (by trivial) (fun hc => ?_) (fun hc => ?_)
 · have hne : ceq xs ys = false := by
    rw [j43]
    intro e
    subst e
    simp at hc
   refine q0b ?_
   refine ⟨.inr rfl, ?_⟩
   rw [Tryz.results49, hne]
   simp only [q1f, resV, go_sem, simprocAttr]
   exact .c _
 · have hlen : xs.length = ys.length := by
    simp at hc
    omega
   refine q0b ?_
   refine VC.loop (ι := {i : Nat // i ≤ xs.length ∧ xs.take i = ys.take i}) (fun i => [(1, .c (.sl 6 (ys.map VT.cells))), (2, .fn (.func g) fs cs), (15, .c (.sl 6 (xs.map VT.cells))), (16, .c (.v (.int .i64 xs.length))), (17, .c (.v (.int .i64 i.1)))]) (fun _ => []) 0 (fun i => xs.length - i.1) ⟨0, Nat.zero_le _, rfl⟩ ?_ ?_
   · simp only [q4l hp, q4l hp', Weak, eq_self, q0v, q0p, sc_c, q0r, q0s, q0t, q0o, q0q, ScL, q0u, List.forall_mem_map, go_sem, Int.reduceBEq, Int.reduceLE, Int.reduceLT, Int.reduceNeg, Nat.reduceAdd, Nat.reduceEqDiff, Nat.reduceLT, Nat.reduceLeDiff, Nat.reduceMul, Nat.reduceSub, reduceCtorEq, ↓reduceIte]
     all_goals rfl
   rintro ⟨i, hi, ht⟩
   refine q0b ?_
   refine VC.cond (by rfl) (by trivial) (fun hc => ?_) (fun hc => ?_)
   · simp only [decide_eq_true_eq] at hc
     obtain ⟨x, hx⟩ : ∃ x, xs[i]? = some x := ⟨xs[i], List.getElem?_eq_getElem (by omega)⟩
     obtain ⟨y, hy⟩ : ∃ y, ys[i]? = some y := ⟨ys[i], List.getElem?_eq_getElem (by omega)⟩
     have hw : IntKind.i64.wrap ((i : Int) + 1) = (i : Int) + 1 := q0f (by omega) (by omega)
     have hcl := hcall x (List.mem_of_getElem? hx) y
     refine q0c (And.intro @q4t (And.intro hx (And.intro hy (And.intro @VT.av_eq (And.intro @q1b (And.intro @q1n @q1i)))))) ?_
     (refine AO.step fun K hK => ?_; simp only [go_sem, Int.reduceBEq, Int.reduceLE, Int.reduceLT, Int.reduceNeg, Nat.reduceAdd, Nat.reduceEqDiff, Nat.reduceLT, Nat.reduceLeDiff, Nat.reduceMul, Nat.reduceSub, reduceCtorEq, ↓reduceIte, VT.av, q1b, q1n, q1i, hp, hp', j31, q02, List.append_assoc]; (first | refine q1k ?_ | skip))
     refine .inl ⟨_, hcl, hK _ _ _ ?_⟩
     clear hK K
     refine q0b ?_
     refine VC.cond (by rfl) (by trivial) (fun hc2 => ?_) (fun hc2 => ?_)
     · have hne : ceq xs ys = false := by
        rw [j43]
        intro e
        subst e
        rw [hx] at hy
        obtain rfl := Option.some.inj hy
        rw [j14] at hc2
        simp at hc2
       refine q0b ?_
       refine ⟨.inr rfl, ?_⟩
       rw [Tryz.results49, hne]
       simp only [q1f, resV, go_sem, simprocAttr]
       exact .c _
     · have hxy : x = y := by
        rw [← q65]
        simpa using hc2
       refine q0c (hw) ?_
       refine .next ⟨i + 1, by omega, ?_⟩ ?_ (by simp only []; omega)
       · rw [List.take_add_one, List.take_add_one, hx, hy, ht, hxy]
       simp only [q4l hp, q4l hp', Weak, eq_self, q0v, q0p, sc_c, q0r, q0s, q0t, q0o, q0q, ScL, q0u, List.forall_mem_map, go_sem, Int.reduceBEq, Int.reduceLE, Int.reduceLT, Int.reduceNeg, Nat.reduceAdd, Nat.reduceEqDiff, Nat.reduceLT, Nat.reduceLeDiff, Nat.reduceMul, Nat.reduceSub, reduceCtorEq, ↓reduceIte]
       exact cI (by omega)
   · simp only [decide_eq_false_iff_not] at hc
     obtain rfl : i = xs.length := by omega
     have heq : ceq xs ys = true := by
      rw [List.take_length, hlen, List.take_length] at ht
      rw [q65, ht]
     refine q0b ?_
     refine ⟨.inr rfl, ?_⟩
     rw [Tryz.results49, heq]
     simp only [q1f, resV, go_sem, simprocAttr]
     exact .c _
theorem ceq_val (k n b : Int) (s : List UInt8) (xs : List VT) (ks : List (List UInt8)) (k' n' b' : Int) (s' : List UInt8) (xs' : List VT) (ks' : List (List UInt8)) :
  ceq (VT.mk k n b s xs ks) (VT.mk k' n' b' s' xs' ks') = (((((k == k') && (n == n')) && (b == b')) && (s == s')) && (ks == ks') && ceq xs xs') := by
 rw [Bool.eq_iff_iff]
 simp only [q65, Bool.and_eq_true, beq_iff_eq]
 constructor
 · intro h
   injection h with h1 h2 h3 h4 h5 h6
   exact ⟨⟨⟨⟨⟨h1, h2⟩, h3⟩, h4⟩, h6⟩, h5⟩
 · rintro ⟨⟨⟨⟨⟨rfl, rfl⟩, rfl⟩, rfl⟩, rfl⟩, rfl⟩
   rfl
theorem z2q (s t : List UInt8) : Told Tryz.prog 47 [.c (.sl 1 (q0e s)), .c (.sl 1 (q0e t))] (.c (.v (.bool (s == t)))) := by
 have e : ∀ l : List UInt8, bstr (q28 (q0e l)) = str l := fun l => by rw [j24]; rfl
 have hs := j23 s
 have ht := j23 t
 refine VC.toldP ent_47 Tryz.func47 rfl Tryz.ntmps47 fun hb => ?_
 clear hb
 refine q0c (And.intro e @q17) ?_
 refine retX Tryz.results47 ?_
 exact .c _
theorem j7b : ∀ (m : Nat) (v w : VT), SizeOf.sizeOf v ≤ m → Told Tryz.prog 15 [v.av, w.av] (.c (.v (.bool (ceq v w)))) := by
 intro m
 induction m with
 | zero => intro v w hv; cases v; simp at hv
 | succ m ih =>
 intro v w hv
 cases v with
 | mk k n b s xs ks =>
 cases w with
 | mk k' n' b' s' xs' ks' =>
 have hB := z2q s s'
 have hS := z0t ks ks'
 have hE := eqfV_told (g := 15) (fs := []) (cs := []) rfl rfl xs xs' fun x hx y => ih x y (by
  have h3 := List.sizeOf_lt_of_mem hx
  simp at hv
  omega)
 have hV := ceq_val k n b s xs ks k' n' b' s' xs' ks'
 obtain ⟨V, hVV⟩ : ∃ V, V = ceq (VT.mk k n b s xs ks) (VT.mk k' n' b' s' xs' ks') := ⟨_, rfl⟩
 rw [← hVV] at hV ⊢
 clear hVV ih hv
 generalize (s == s') = b1 at hB hV
 generalize (ks == ks') = b2 at hS hV
 generalize ceq xs xs' = b3 at hE hV
 replace hV := Lib.hid hV
 rw [VT.av_eq, VT.av_eq, q03, q03]
 refine VC.toldP ent_15 Tryz.func15 rfl Tryz.ntmps15 fun hb => ?_
 clear hb
 refine q0b ?_
 refine q2m (hB) ?_
 refine q0b ?_
 refine q2m (hS) ?_
 refine q0b ?_
 refine q2m (hE) ?_
 refine q0b ?_
 refine retX Tryz.results15 ?_
 rw [hV.out]
 exact .c _
theorem z1l : ∀ (m : Nat) (v : VT), SizeOf.sizeOf v ≤ m → q2l v ≤ 1000 → v.sm 1000000 → Told Tryz.prog 17 [v.av] (.c (.v (.int .i64 (q2l v)))) := by
 intro m
 induction m with
 | zero => intro v hv; cases v; simp at hv
 | succ m ih =>
 intro v hv hd hsm
 cases v with
 | mk k n b s xs ks =>
 obtain ⟨_, _, _, _, hxl, hxs⟩ := hsm
 rw [VT.av_eq, q03]
 refine VC.toldP ent_17 Tryz.func17 rfl Tryz.ntmps17 fun hb => ?_
 clear hb
 refine q0b ?_
 rcases (by omega : (k ≠ 9 ∧ k ≠ 11 ∧ k ≠ 12 ∧ k ≠ 13) ∨ k = 9 ∨ k = 11 ∨ k = 12 ∨ k = 13) with ⟨h9, h11, h12, h13⟩ | hk
 · have e9 : (k == 9) = false := by simpa using h9
   have e11 : (k == 11) = false := by simpa using h11
   have e12 : (k == 12) = false := by simpa using h12
   have e13 : (k == 13) = false := by simpa using h13
   have hdd : q2l (.mk k n b s xs ks) = 0 := by rw [q2l, if_neg (by omega)]
   rw [hdd, e9]
   refine q0a (And.intro e9 (And.intro e11 (And.intro e12 e13))) ?_
   refine retX Tryz.results17 ?_
   exact .c _
 have hdd : q2l (.mk k n b s xs ks) = q3x 1 xs := by rw [q2l, if_pos hk]
 rw [hdd] at hd ⊢
 clear hdd
 rcases hk with rfl | rfl | rfl | rfl
 all_goals
  refine q0m ?_
  refine VC.loop (ι := {i : Nat // i ≤ xs.length}) (fun i => [(3, .c (.v (.int .i64 (q3x 1 (xs.take i.1))))), (14, .c (.sl 6 (xs.map VT.cells))), (15, .c (.v (.int .i64 xs.length))), (16, .c (.v (.int .i64 i.1)))]) (fun _ => []) 0 (fun i => xs.length - i.1) ⟨0, Nat.zero_le _⟩ ?_ ?_
  · simp only [List.take_zero, q3x, List.map_nil, Weak, eq_self, q0v, q0p, sc_c, q0r, q0s, q0t, q0o, q0q, ScL, q0u, List.forall_mem_map, go_sem, Int.reduceBEq, Int.reduceLE, Int.reduceLT, Int.reduceNeg, Nat.reduceAdd, Nat.reduceEqDiff, Nat.reduceLT, Nat.reduceLeDiff, Nat.reduceMul, Nat.reduceSub, reduceCtorEq, ↓reduceIte]
  rintro ⟨i, hi⟩
  refine q0b ?_
  refine VC.cond (by rfl) (by trivial) (fun hc => ?_) (fun hc => ?_)
  · simp only [decide_eq_true_eq] at hc
    have hlt : i < xs.length := by omega
    obtain ⟨x, hx⟩ : ∃ x, xs[i]? = some x := ⟨xs[i], List.getElem?_eq_getElem hlt⟩
    have hxm := List.mem_of_getElem? hx
    have hle := (j4p xs 1).2 x hxm
    have hcall := ih x (by
     have h1 := List.sizeOf_lt_of_mem hxm
     simp at hv
     omega) (by omega) (j2q hxs x hxm)
    have hmm : q3x 1 (xs.take (i + 1)) = max (q3x 1 (xs.take i)) (1 + q2l x) := by
     rw [← z1m, List.take_add_one, hx]
     rfl
    have hxp : (xs.map VT.cells)[i]? = some x.cells := by rw [List.getElem?_map, hx]; rfl
    rw [VT.av_eq] at hcall
    have hw : IntKind.i64.wrap (1 + (q2l x : Int)) = 1 + (q2l x : Int) := q0f (by omega) (by omega)
    have hw2 : IntKind.i64.wrap ((i : Int) + 1) = (i : Int) + 1 := q0f (by omega) (by omega)
    refine q0c (And.intro hxp (And.intro @q1b (And.intro @q1n @q1i))) ?_
    refine q06 (@q02) (hcall) ?_
    refine q0c (And.intro hw hw2) ?_
    refine .next ⟨i + 1, by omega⟩ ?_ (by simp only []; omega)
    refine q1j (hmm) ?_
    exact ⟨cI (by omega), cI (by omega)⟩
  · simp only [decide_eq_false_iff_not] at hc
    obtain rfl : i = xs.length := by omega
    refine q0b ?_
    refine retX Tryz.results17 ?_
    rw [List.take_length]
    exact .c _
section

section
variable {P : Program} {N : Nat} {Q : Exit → ASt → Prop} {id : Nat} {o1 o2 : Oper} {t : Nat → AV} {h : Nat → Option Blkd} {n d1 d2 : Nat}
end
end

theorem ceq_field (a b : FT) : ceq a b = ((((a.name == b.name) && (a.aliases == b.aliases)) && (a.type == b.type)) && (a.has == b.has) && jeq a.dflt b.dflt) := by
 rw [Bool.eq_iff_iff]
 simp only [q65, Bool.and_eq_true, beq_iff_eq, j2e]
 constructor
 · rintro rfl
   exact ⟨⟨⟨⟨rfl, rfl⟩, rfl⟩, rfl⟩, rfl⟩
 · rintro ⟨⟨⟨⟨h1, h2⟩, h3⟩, h4⟩, h5⟩
   cases a
   cases b
   simp_all
theorem ceq_node (a b : NT) : ceq a b = ((((((((((a.kind == b.kind) && (a.name == b.name)) && (a.aliases == b.aliases)) && ceq a.fields b.fields) && (a.symbols == b.symbols)) && (a.has == b.has)) && (a.dflt == b.dflt)) && (a.size == b.size)) && (a.items == b.items)) && (a.branches == b.branches)) := by
 rw [Bool.eq_iff_iff]
 simp only [q65, Bool.and_eq_true, beq_iff_eq]
 constructor
 · rintro rfl
   simp
 · rintro ⟨⟨⟨⟨⟨⟨⟨⟨⟨h1, h2⟩, h3⟩, h4⟩, h5⟩, h6⟩, h7⟩, h8⟩, h9⟩, h10⟩
   cases a
   cases b
   simp_all

theorem j8g (l : List PV) : ∀ x ∈ l.map AV.c, x.cellish = true := fun x hx => by
 obtain ⟨p, _, rfl⟩ := List.mem_map.1 hx
 rfl

def w11a : NT := ⟨11, [], [], [], [], false, [], 0, 1, []⟩
def w11b : NT := ⟨3, [], [], [], [], false, [], 0, 0, []⟩
def w11 : ST := ⟨[w11a, w11b], 0⟩
theorem w11_a : q2h w11.nodes w11a = true := by
 unfold q2h
 rw [if_neg (show ¬ w11a.kind = 9 by decide)]
 decide +kernel
theorem w11_b : q2h w11.nodes w11b = true := by
 unfold q2h
 rw [if_neg (show ¬ w11b.kind = 9 by decide)]
 decide +kernel
theorem z1y : q1s w11 = true := by
 have h1 : q38 w11 = true := by decide +kernel
 have h2 : q3k q3l (q1u w11.nodes) = true := by decide +kernel
 have h3 : q4a w11.nodes w11.nodes 0 (List.replicate w11.nodes.length 0) = true := by
  rw [show q4a w11.nodes w11.nodes = q4a w11.nodes [w11a, w11b] from rfl]
  rw [q4a, q4a, q4a, w11_a, w11_b]
  decide +kernel
 unfold q1s
 rw [h1, h2, h3]
 rfl
theorem w11_sm : w11.sm 1000000 := by
 refine ⟨by decide, fun n hn => ?_⟩
 simp only [w11, List.mem_cons, List.not_mem_nil, or_false] at hn
 rcases hn with rfl | rfl
 · exact ⟨by decide, by decide, ⟨by decide, by simp [w11a]⟩, ⟨by decide, by simp [w11a]⟩, by decide, by decide, by simp [w11a]⟩
 · exact ⟨by decide, by decide, ⟨by decide, by simp [w11b]⟩, ⟨by decide, by simp [w11b]⟩, by decide, by decide, by simp [w11b]⟩
section

section
variable {P : Program} {ops : Array Oper} {o : Oper} {ℓ : Nat} {t : Nat → AV} {h : Nat → Option Blkd}
theorem Rel.forget {C : Ctx P} {used : Nat → Prop} {N : Nat} {t1 : Nat → AV} {h1 : Nat → Option Blkd} {ro : Nat → Prop} {φ : Nat → Value} {a : Act} {W : World} (r : Rel C used N t1 h1 ro φ a W) {j : Nat} {B : Blkd} (hB : h1 j = some B) : Rel C used N t1 (upd h1 j none) (fun k => ro k ∨ q0y (φ j) = some k) φ a W := by
 have hh : ∀ k B', upd h1 j none k = some B' → k ≠ j ∧ h1 k = some B' := by
  intro k B' hB'
  by_cases hkj : k = j
  · subst hkj
    rw [q09] at hB'
    simp at hB'
  · rw [q1o _ _ hkj] at hB'
    exact ⟨hkj, hB'⟩
 have hg : Goes used φ φ h1 (upd h1 j none) := fun k B' hu hB' => ⟨B', (hh k B' hB').2, .inr ⟨rfl, rfl, rfl⟩⟩
 have hsg : ∀ k B', used k → upd h1 j none k = some B' → ∃ B0, h1 k = some B0 ∧ B0.len ≤ B'.len := fun k B' hu hB' => ⟨B', (hh k B' hB').2, Nat.le_refl _⟩
 refine ⟨r.keep, r.defers, r.size, fun k => (r.tm k).map (r.scT k) (fun _ _ => rfl) (fun _ h => .inl h) hg,
  fun k B' hB' => ?_, fun k k' B1 B2 b' h2 h3 => r.inj k k' B1 B2 b' (hh k B1 h2).2 (hh k' B2 h3).2, fun k B' b' hB' hb' => ⟨fun hr => ?_, (r.own k B' b' (hh k B' hB').2 hb').2⟩, fun k hk' => ?_, fun k hk' => .inl (r.ro0 k hk'), fun k hk' => ?_,
  fun k => (r.scT k).map (fun _ h => h) hsg, fun k B' hB' => ⟨(r.scH k B' (hh k B' hB').2).1, fun e he x hx => ((r.scH k B' (hh k B' hB').2).2 e he x hx).map (fun _ h => h) hsg⟩, fun k n hn => ⟨(r.lent k n hn).1, (r.lent k n hn).2.1, fun B' hB' => (r.lent k n hn).2.2 B' (hh k B' hB').2⟩, r.glob⟩
 · obtain ⟨h2, h3⟩ := hh k B' hB'
   exact (r.hp k B' h3).map (r.scH k B' h3).2 (fun _ _ => rfl) (fun _ h => .inl h) hg rfl fun b' hb' => rfl
 · obtain ⟨h2, h3⟩ := hh k B' hB'
   rcases hr with hr | hr
   · exact (r.own k B' b' h3 hb').1 hr
   · exact r.inj j k B B' b' hB h3 (fun e => h2 e.symm) hr hb'
 · rcases hk' with hk' | hk'
   · exact r.rolt k hk'
   · exact r.blk_lt hB hk'
 · rcases hk' with hk' | hk'
   · exact r.ronew k hk'
   · rcases Nat.lt_or_ge k C.W0.heap.size with h2 | h2
     · exact .inr (.inr ((r.own j B k hB hk').2 h2))
     · exact .inr (.inl h2)
theorem J_callZ (f : FuncId) (xs : Array Operand) (tys : Array TypeId) (y : AV) (j n : Nat) (B : Blkd) (es : List (List PV)) (l m : List AV) (ho : o.op = .call { callee := .value (.func f), args := xs, argTypes := tys }) (hx : ∀ x ∈ xs, okx t x)
  (hB : h j = some B) (hrow : B.row = true) (hn : B.len = n) (he : B.elems = es.map fun e => e.map .c) (hargs : xs.toList.map (ev t) = l ++ .row j n :: m) (hp : AV.pureL (l ++ .c (.sl B.z es) :: m) = true) (hT : Told P f (l ++ .c (.sl B.z es) :: m) y) :
  J P o ℓ t h ⟨y, [j], [(j, none)]⟩ := by
 intro C used N t1 h1 ro φ a W ht hh hu hd r K Q hK
 have hs : ∀ x ∈ xs, ev t1 x = ev t x ∧ okx t1 x = okx t x := fun x hx => q2o ht (by simp [ho, Op.operands, Call.operands, hx])
 have hB1 : h1 j = some B := (hh j (by simp)).trans hB
 have hview := j2k r hB1 hrow he
 unfold Oper.wp
 have hex : (execOp a.eval o).run P W = .ok (.enter f (xs.toList.map a.eval).toArray) W := by
  have := hT.1 (xs.map a.eval) W
  simp only [execOp, ho, resolve, Act.eval, Deferred.ofValue, Sem.run_bind, Sem.run_pure, Result.andThen_ok, invoke, Array.append_empty, Array.empty_append]
  rw [this]
  congr 2
  apply Array.toList_inj.1
  rw [Array.toList_map]
 rw [hex]
 have hL := q8a r hs hx
 rw [hargs] at hL
 have r2 := r.forget hB1
 have hpu := q6c _ hp
 have hL2 : RepL W (fun k => ro k ∨ q0y (φ j) = some k) φ (upd h1 j none) (l ++ .c (.sl B.z es) :: m) (xs.toList.map a.eval) := by
  refine ⟨by rw [hL.1]; simp, fun i x v h2 h3 => ?_⟩
  have hlen : (l ++ AV.row j n :: m).length = (l ++ AV.c (.sl B.z es) :: m).length := by simp
  by_cases hi : i = l.length
  · subst hi
    have h4 : (l ++ AV.row j n :: m)[l.length]? = some (.row j n) := by simp
    have h5 : (l ++ AV.c (.sl B.z es) :: m)[l.length]? = some (.c (.sl B.z es)) := by simp
    rw [h5] at h2
    obtain rfl := Option.some.inj h2
    have hr := hL.2 l.length _ v h4 h3
    cases hr with
    | row _ hv =>
      obtain rfl := hv B hB1 hn
      exact .c hview
  · have h4 : (l ++ AV.row j n :: m)[i]? = some x := by
     rw [← h2]
     rcases Nat.lt_or_ge i l.length with h6 | h6
     · rw [List.getElem?_append_left h6, List.getElem?_append_left h6]
     · rw [List.getElem?_append_right h6, List.getElem?_append_right h6]
       obtain ⟨q, hq⟩ : ∃ q, i - l.length = q + 1 := ⟨i - l.length - 1, by omega⟩
       rw [hq, List.getElem?_cons_succ, List.getElem?_cons_succ]
    have hr := hL.2 i x v h4 h3
    have hpx := hpu x (List.mem_of_getElem? h2)
    exact (hr.map hpx.sc (fun _ _ => rfl) (fun _ h => .inl h) (used := used) (φ' := φ) (h' := upd h1 j none) fun k B' hu' hB' => by
     by_cases hkj : k = j
     · subst hkj
       rw [q09] at hB'
       simp at hB'
     · rw [q1o _ _ hkj] at hB'
       exact ⟨B', hB', .inr ⟨rfl, rfl, rfl⟩⟩)
 refine j60 hT hpu r2 hL2 hd fun a' W' ro' φ' r' => hK a' W' ro' φ' ?_
 exact r'.take fun j hj => .inl hj
end
end

def w19x : VT := .mk 3 3 0 [] [] []
def w19y : VT := .mk 3 27 0 [] [] []
def w19v : VT := .mk 11 0 0 [] [w19x, w19y] []
theorem w19_1 : decM w11.nodes 20 0 [4, 6, 54, 0] 0 = .ok (w19v, 4) := by kernel_rfl
theorem w19_2 : decM w11.nodes 20 0 [3, 0, 6, 54, 0] 0 = .ok (w19v, 5) := by kernel_rfl
theorem j46 {s : ST} {a : Int} {B : List UInt8} {v : VT} (h1 : 0 ≤ a) (h2 : a < (s.nodes.length : Int)) (h3 : q1s s = true) (h4 : decM s.nodes 20 a B 0 = .ok (v, B.length)) : q4i s a B = (v, 0) := by
 unfold q4i
 rw [j2m (by rw [h3]; simp; omega), show ((0 : Int)).toNat = 0 from rfl, h4]
 simp
theorem w19_a : q4i w11 0 [4, 6, 54, 0] = (w19v, 0) := j46 (by decide) (by decide) z1y w19_1
theorem w19_b : q4i w11 0 [3, 0, 6, 54, 0] = (w19v, 0) := j46 (by decide) (by decide) z1y w19_2
theorem j1y : Told Tryz.prog 29 [] (.c (.v (.bool true))) := by
 have hA := j1f w11 w11_sm 0 [4, 6, 54, 0] (by decide)
 have hB := j1f w11 w11_sm 0 [3, 0, 6, 54, 0] (by decide)
 have hS := j7b _ w19v w19v (Nat.le_refl _)
 rw [j14] at hS
 rw [w19_a] at hA
 rw [w19_b] at hB
 simp only [ST.av_eq, q0i] at hA hB
 refine VC.toldP ent_29 Tryz.func29 rfl Tryz.ntmps29 fun hb => ?_
 clear hb
 refine j0r ?_
 refine j0r ?_
 refine VC.frz [] [(1, .ref 40 1 0 0)] [(24, ⟨true, 33, 10, [w11a.cells.map .c, [.c (.v (.int .i64 3)), .c (.v (.string ⟨#[]⟩)), .c (.v (.slice none 0 0)), .c (.v (.slice none 0 0)), .c (.v (.slice none 0 0)), .c (.v (.bool false)), .c (.v (.string ⟨#[]⟩)), .c (.v (.int .i64 0)), .c (.v (.int .i64 0)), .c (.v (.slice none 0 0))]]⟩), (40, ⟨false, 24, 2, [[.row 24 2, .c (.v (.int .i64 0))]]⟩)] 400 ?_ ?_
 · refine q5c (And.intro @q1l @q0x) ?_
   exact ⟨.same _, .set (i := 0) (e' := w11a.cells.map .c) rfl (.cons (.same _) (.cons (.same _) (.cons (.nil 1) (.cons (.nil 9) (.cons (.nil 1) (.cons (.same _) (.cons (.same _) (.cons (.same _) (.cons (.same _) (.cons (.nil 1) .nil)))))))))) (j8g _), .same _⟩
 refine VC.frz [] [(1, .ref 40 1 0 0)] [(24, ⟨true, 33, 10, [w11a.cells.map .c, w11b.cells.map .c]⟩), (40, ⟨false, 24, 2, [[.row 24 2, .c (.v (.int .i64 0))]]⟩)] 400 ?_ ?_
 · refine q5c (And.intro @q1l @q0x) ?_
   exact ⟨.same _, .set (i := 1) (e' := w11b.cells.map .c) rfl (.cons (.same _) (.cons (.same _) (.cons (.nil 1) (.cons (.nil 9) (.cons (.nil 1) (.cons (.same _) (.cons (.same _) (.cons (.same _) (.cons (.same _) (.cons (.nil 1) .nil)))))))))) (j8g _), .same _⟩
 refine VC.frz [24] [(1, .ref 40 1 0 0)] [(40, ⟨false, 24, 2, [[.c (.sl 10 (w11.nodes.map NT.cells)), .c (.v (.int .i64 w11.root))]]⟩)] 400 ?_ ?_
 · refine q5c (And.intro @q1l @q0x) ?_
   exact ⟨.same _, .one (.cons (.row (B := ⟨true, 33, 10, [w11a.cells.map .c, w11b.cells.map .c]⟩) (es := w11.nodes.map NT.cells) (by simp) rfl rfl rfl rfl) (.cons (.same _) .nil)) (by simp [AV.cellish])⟩
 have hW : w19v.cells = [.v (.int .i64 11), .v (.int .i64 0), .v (.int .u64 0), .sl 1 [], .sl 6 [[.v (.int .i64 3), .v (.int .i64 3), .v (.int .u64 0), .sl 1 [], .sl 6 [], .sl 1 []], [.v (.int .i64 3), .v (.int .i64 27), .v (.int .u64 0), .sl 1 [], .sl 6 [], .sl 1 []]], .sl 1 []] := by
  unfold w19v w19x w19y
  simp only [q03, List.map_cons, List.map_nil]
  rfl
 simp only [VT.av_eq, hW] at hA hB hS
 refine q0b ?_
 refine AO.stepJw rfl (J_mark _ _ _ _ 408 4 _ (q0e [4, 6, 54, 0]) rfl q6f rfl q51 rfl (by trivial) rfl rfl rfl rfl (by decide) rfl) ?_
 refine q0j (hA) ?_
 refine q0b ?_
 refine AO.stepJw rfl (J_mark _ _ _ _ 488 5 _ (q0e [3, 0, 6, 54, 0]) rfl q6f rfl q51 rfl (by trivial) rfl rfl rfl rfl (by decide) rfl) ?_
 refine q0j (hB) ?_
 refine q0b ?_
 refine q0j (hS) ?_
 refine q0b ?_
 refine retX Tryz.results29 ?_
 exact .c _

mutual
def q4z (d : Nat) : VT → Nat
 | .mk k n w s xs ks => if 80 < d ∨ 2500 < s.length ∨ 2500 < xs.length ∨ 2500 < ks.length then 2501 else match q3f (1 + s.length) ks with | none => 2501 | some n => q4n d n xs
def q4n (d : Nat) : Nat → List VT → Nat
 | n, [] => n
 | n, x :: xs => if n ≤ 2500 then q4n d (n + q4z (d + 1) x) xs else n
end
mutual
theorem vbulk_le (d : Nat) : ∀ (t : VT), q4z d t ≤ 5001 + 2501 * (81 - d)
 | .mk k n w s xs ks => by
   rw [q4z]
   split
   · omega
   · rename_i h
     split
     · omega
     · rename_i m hm
       exact j68 d xs m (by have := j4x ks _ _ (by omega) hm; omega)
theorem j68 (d : Nat) : ∀ (xs : List VT) (n : Nat), n ≤ 5001 + 2501 * (81 - d) → q4n d n xs ≤ 5001 + 2501 * (81 - d)
 | [], n, h => by rw [q4n]; exact h
 | x :: xs, n, h => by
   rw [q4n]
   split
   · have := vbulk_le (d + 1) x
     by_cases hd : 80 < d
     · have h2 : q4z (d + 1) x = 2501 := by
        cases x
        rw [q4z, if_pos (by omega)]
       exact j68 d xs _ (by omega)
     · exact j68 d xs _ (by omega)
   · exact h
end
theorem j1w (d : Nat) : ∀ (xs : List VT) (n : Nat), n ≤ q4n d n xs
 | [], n => by rw [q4n]; exact Nat.le_refl _
 | x :: xs, n => by
   rw [q4n]
   split
   · exact Nat.le_trans (Nat.le_add_right _ _) (j1w d xs _)
   · exact Nat.le_refl _
mutual
theorem z6v (d : Nat) : ∀ (t : VT), q4z d t ≤ 2500 → q2l t + d ≤ 81
 | .mk k n w s xs ks => fun h => by
   rw [q4z] at h
   split at h
   · omega
   · rename_i hd
     split at h
     · omega
     · rw [q2l]
       split
       · exact z1p d xs _ 1 (by omega) h
       · omega
theorem z1p (d : Nat) : ∀ (xs : List VT) (n m : Nat), m + d ≤ 81 → q4n d n xs ≤ 2500 → q3x m xs + d ≤ 81
 | [], n, m, hm, h => by rw [q3x]; exact hm
 | x :: xs, n, m, hm, h => by
   rw [q4n] at h
   split at h
   · have h1 := j1w d xs (n + q4z (d + 1) x)
     have h2 := z6v (d + 1) x (by omega)
     rw [q3x]
     exact z1p d xs _ _ (by omega) h
   · omega
end
mutual
theorem vbulk_sm (d : Nat) : ∀ v : VT, v.inr → q4z d v ≤ 2500 → v.sm 2500
 | .mk k n w s xs ks => fun hr h => by
   rw [q4z] at h
   split at h
   · omega
   · rename_i h1
     split at h
     · omega
     · rename_i m hm
       have h2 := j1w d xs m
       obtain ⟨_, h3⟩ := j2z ks _ m hm (by omega)
       exact ⟨hr.1, by omega, by omega, h3, by omega, z1q d m xs hr.2 h⟩
theorem z1q (d n : Nat) : ∀ xs : List VT, VT.inrL xs → q4n d n xs ≤ 2500 → VT.smL 2500 xs
 | [] => fun _ _ => trivial
 | x :: xs => fun hr h => by
   rw [q4n] at h
   split at h
   · have := j1w d xs (n + q4z (d + 1) x)
     exact ⟨vbulk_sm (d + 1) x hr.1 (by omega), z1q d _ xs hr.2 h⟩
   · omega
end

def kw : List (List UInt8) → Nat
 | [] => 0
 | y :: ys => 1 + y.length + kw ys
mutual
def vw : VT → Nat
 | .mk k n b t xs ks => 1 + t.length + kw ks + vwL xs
def vwL : List VT → Nat
 | [] => 0
 | x :: xs => vw x + vwL xs
end
theorem vw_pos (v : VT) : 1 ≤ vw v := by cases v; rw [vw]; omega
def BL : List Enc → Nat → Prop
 | [], _ => True
 | f :: fs, N => ∃ w r, w + r ≤ N ∧ (∀ c, (f c).1.length ≤ w) ∧ BL fs r
theorem BL.le : ∀ {fs : List Enc} {N M : Nat}, BL fs N → N ≤ M → BL fs M
 | [], _, _, _, _ => trivial
 | f :: fs, N, M, ⟨w, r, h1, h2, h3⟩, h => ⟨w, r, by omega, h2, h3⟩
theorem BL.cut : ∀ {fs : List Enc} {N : Nat} (n : Nat), BL fs N → ∃ a b, a + b ≤ N ∧ BL (fs.take n) a ∧ BL (fs.drop n) b
 | fs, N, 0, h => ⟨0, N, by omega, by simp [BL], by simpa using h⟩
 | [], N, n + 1, h => ⟨0, 0, by omega, trivial, trivial⟩
 | f :: fs, N, n + 1, ⟨w, r, h1, h2, h3⟩ => by
   obtain ⟨a, b, h4, h5, h6⟩ := BL.cut n h3
   exact ⟨w + a, b, by omega, ⟨w, a, Nat.le_refl _, h2, h5⟩, h6⟩
theorem j4f : ∀ {fs : List Enc} {N : Nat}, BL fs N → ∀ c, (seqF fs c).1.length ≤ N
 | [], N, _, c => by simp [seqF]
 | f :: fs, N, ⟨w, r, h1, h2, h3⟩, c => by
   rw [seqF, List.length_append]
   have a := h2 c
   have b := j4f h3 (f c).2
   omega
theorem headB_len (n : Nat) (sized : Bool) (m : Nat) (hn : n ≤ 1000000000) (hm : m ≤ 1000000000) : (q5t n sized m).length ≤ 20 := by
 have a := q5a (-(n : Int)) (by omega) (by omega)
 have b := q5a (m : Int) (by omega) (by omega)
 have c := q5a (n : Int) (by omega) (by omega)
 unfold q5t
 split
 · rw [List.length_append]; omega
 · omega
theorem j4y (cuts : List Int) : ∀ (k : Nat) (fs : List Enc) (N : Nat), BL fs N → N ≤ 1000000000 → fs.length ≤ 1000000000 → ∀ c, (blkF cuts k fs c).1.length ≤ N + 20 * fs.length + 10
 | 0, fs, N, _, _, _, c => by
   have := q5a 0 (by decide) (by decide)
   rw [blkF]
   simp only []
   omega
 | k + 1, [], N, _, _, _, c => by
   have := q5a 0 (by decide) (by decide)
   rw [blkF]
   simp only []
   omega
 | k + 1, f :: fs, N, h, hN, hl, c => by
   rw [blkF]
   simp only []
   have hp := j27 cuts c (fs.length + 1) (by omega)
   obtain ⟨a, b, h1, h2, h3⟩ := h.cut (cutM cuts c (fs.length + 1)).1
   simp at hl
   have s1 := j4f h2 (cutM cuts c (fs.length + 1)).2.2
   have s2 := headB_len (cutM cuts c (fs.length + 1)).1 (cutM cuts c (fs.length + 1)).2.1 (seqF ((f :: fs).take (cutM cuts c (fs.length + 1)).1) (cutM cuts c (fs.length + 1)).2.2).1.length (by omega) (by omega)
   have s3 := j4y cuts k ((f :: fs).drop (cutM cuts c (fs.length + 1)).1) b h3 (by omega) (by simp; omega) (seqF ((f :: fs).take (cutM cuts c (fs.length + 1)).1) (cutM cuts c (fs.length + 1)).2.2).2
   rw [List.length_drop] at s3
   simp only [List.length_append, List.length_cons] at s3 ⊢
   omega
theorem leaf_len (nd : NT) (k n b : Int) (t : List UInt8) (ht : t.length ≤ 1000000) (h1 : -9223372036854775808 ≤ n) (h2 : n ≤ 9223372036854775807) : (q2k nd k n b t).length ≤ 10 + t.length := by
 have a := q5a n h1 h2
 have c := q5a (t.length : Int) (by omega) (by omega)
 have d := q5q b 4
 have e := q5q b 8
 unfold q2k
 split
 · simp
   omega
 · split
   · omega
   · split
     · omega
     · split
       · omega
       · split
         · rw [List.length_append]; omega
         · split
           · omega
           · simp
mutual
theorem enc_len (ns : List NT) (cuts : List Int) : ∀ (v : VT), v.sm 1000000 → v.lng → vw v ≤ 1000000 → ∀ (a : Int) (c : Nat), (encM ns cuts a v c).1.length + 30 ≤ 60 * vw v
 | .mk k n b t xs ks, hs, hl, hw, a, c => by
   obtain ⟨_, ht, _, hk, hx, hxs⟩ := hs
   obtain ⟨⟨hn1, hn2⟩, hls⟩ := hl
   rw [vw] at hw ⊢
   have hB := fun f => j8t ns cuts xs hxs hls (by omega) f
   rw [encM]
   split
   · simp
     omega
   · rename_i nd hnd
     split
     · obtain ⟨N, hN, hb⟩ := hB (fun j => q2u nd j)
       have := j4f hb c
       simp only []
       omega
     · split
       · obtain ⟨N, hN, hb⟩ := hB (fun _ => nd.items)
         have hel := q34 ns cuts xs (fun _ => nd.items)
         have := j4y cuts xs.length _ N hb (by omega) (by omega) c
         simp only []
         omega
       · split
         · obtain ⟨N, hN, hb⟩ := hB (fun _ => nd.items)
           have hel := q34 ns cuts xs (fun _ => nd.items)
           have hz : ∀ (ks : List (List UInt8)) (fs : List Enc) (N : Nat), (∀ y ∈ ks, y.length ≤ 1000000) → BL fs N → BL (List.zipWith keyF ks fs) (N + 10 * fs.length + kw ks) := by
            intro ks
            induction ks with
            | nil => intro fs N _ _; simp [BL]
            | cons y ys ih =>
              intro fs N hy h
              cases fs with
              | nil => simp [BL]
              | cons f fs =>
                obtain ⟨w, r, h1, h2, h3⟩ := h
                have hv := q5a (y.length : Int) (by have := hy y (by simp); omega) (by have := hy y (by simp); omega)
                refine ⟨w + 10 + y.length, r + 10 * fs.length + kw ys, by simp [kw]; omega, fun c => ?_, ih fs r (fun z hz => hy z (by simp [hz])) h3⟩
                have := h2 c
                simp only [keyF, List.length_append]
                omega
           have hzz := hz ks _ N hk hb
           have hzl : (List.zipWith keyF ks (q1a ns cuts (fun _ => nd.items) xs)).length ≤ xs.length := by rw [List.length_zipWith]; omega
           have := j4y cuts xs.length _ _ hzz (by omega) (by omega) c
           simp only []
           omega
         · split
           · obtain ⟨N, hN, hb⟩ := hB (fun _ => q2x nd n)
             have a1 := j4f hb c
             have a2 := q5a n hn1 hn2
             simp only [List.length_append]
             omega
           · have := leaf_len nd nd.kind n b t ht hn1 hn2
             simp only []
             omega
theorem j8t (ns : List NT) (cuts : List Int) : ∀ (xs : List VT), VT.smL 1000000 xs → VT.lngL xs → vwL xs ≤ 1000000 → ∀ (f : Nat → Int), ∃ N, N + 30 * xs.length ≤ 60 * vwL xs ∧ BL (q1a ns cuts f xs) N
 | [], _, _, _, f => ⟨0, by simp [vwL], by rw [q1a]; trivial⟩
 | x :: xs, hs, hl, hw, f => by
   rw [vwL] at hw ⊢
   obtain ⟨N, h1, h2⟩ := j8t ns cuts xs hs.2 hl.2 (by omega) (fun i => f (i + 1))
   have hp := vw_pos x
   refine ⟨(60 * vw x - 30) + N, by simp; omega, ?_⟩
   rw [q1a]
   exact ⟨60 * vw x - 30, N, Nat.le_refl _, fun c => by have := enc_len ns cuts x hs.1 hl.1 (by omega) (f 0) c; omega, h2⟩
end
theorem j74 : ∀ (ks : List (List UInt8)) (n m : Nat), q3f n ks = some m → m ≤ 2500 → n + kw ks = m
 | [], n, m, e, h => by rw [q3f] at e; obtain rfl := Option.some.inj e; rfl
 | y :: ys, n, m, e, h => by
   have hl := j2z (y :: ys) n m e h
   rw [q3f] at e
   split at e
   · split at e
     · simp at e
     · have := j74 ys _ m e h
       rw [kw]
       omega
   · obtain rfl := Option.some.inj e
     simp at hl
     omega
mutual
theorem vbulk_vw (d : Nat) : ∀ v : VT, q4z d v ≤ 2500 → vw v ≤ q4z d v
 | .mk k n w s xs ks => fun h => by
   rw [q4z] at h ⊢
   split at h
   · omega
   · rename_i h1
     rw [if_neg h1]
     split at h
     · omega
     · rename_i m hm
       have h2 := j1w d xs m
       have h3 := j74 ks _ m hm (by omega)
       have h4 := z1r d xs m h
       rw [vw]
       omega
theorem z1r (d : Nat) : ∀ (xs : List VT) (n : Nat), q4n d n xs ≤ 2500 → n + vwL xs ≤ q4n d n xs
 | [], n => fun h => by rw [q4n, vwL]; exact Nat.le_refl _
 | x :: xs, n => fun h => by
   rw [q4n] at h ⊢
   split at h
   · rename_i hn
     rw [if_pos hn, vwL]
     have h1 := j1w d xs (n + q4z (d + 1) x)
     have h2 := vbulk_vw (d + 1) x (by omega)
     have h3 := z1r d xs _ h
     omega
   · omega
end

theorem z1e (b : Int) : ∀ k : Nat, q2e (q2w b k) = b.toNat % 256 ^ k
 | 0 => by simp [q2w, q2e, Nat.mod_one]
 | k + 1 => by
   rw [q2w, z1g, z1e b k, q5q, Nat.pow_succ, Nat.mod_mul]
   have : ((b.toNat / 256 ^ k).toUInt8).toNat = b.toNat / 256 ^ k % 256 := by simp
   rw [this, Nat.mul_comm]
theorem j7p {b : Int} {k : Nat} (h0 : 0 ≤ b) (h1 : b < ((256 ^ k : Nat) : Int)) : Back (q47 k) (q2w b k) b := by
 have h := j2v (q2w b k)
 rw [q5q] at h
 refine q21 h ?_
 rw [z1e, Nat.mod_eq_of_lt (by omega), show ((b.toNat : Nat) : Int) = b from by omega]
theorem back_bool {n : Int} (h : n = 0 ∨ n = 1) : Back q48 [if n = 0 then (0 : UInt8) else 1] n := by
 refine q21 (j2v [if n = 0 then (0 : UInt8) else 1]) ?_
 rcases h with rfl | rfl
 · simp [q2e]
 · simp [q2e]
theorem j7r {l : List UInt8} (h : l.length ≤ 20000) : Back q3n (vput (l.length : Int) ++ l) l := by
 refine q62 (j0v (n := (l.length : Int)) (by omega) (by omega)) ?_
 rw [if_neg (by omega), if_neg (by omega), Int.toNat_natCast]
 exact j2v l
theorem j7x {l : List UInt8} (h : l.length ≤ 20000) (hr : q2p l = true) : Back q2t (vput (l.length : Int) ++ l) l :=
 q21 (j7r h) (by rw [if_pos hr])
theorem j7v {f : Rd Int} {l : List UInt8} {n : Int} {many : Nat} (hf : Back f l n) (h0 : 0 ≤ n) (h1 : n < (many : Int)) : Back (q8j f many) l n :=
 q21 hf (by rw [if_neg (by omega)])
theorem z2o {k n : Nat} (hk : n + k ≤ 300) (h0 : 0 < n) (sized : Bool) {m : Nat} (hm : m ≤ 1000000000) : Back (q4w k) (q5t n sized m) n := by
 unfold q5t
 split
 · refine q62 (j0v (n := -(n : Int)) (by omega) (by omega)) ?_
   rw [if_pos (by omega)]
   refine q21 (j0v (n := (m : Int)) (by omega) (by omega)) ?_
   rw [if_neg (by omega), show (- -(n : Int)).toNat = n from by omega]
 · refine q21 (j0v (n := (n : Int)) (by omega) (by omega)) ?_
   rw [if_neg (by omega), if_neg (by omega), Int.toNat_natCast]
theorem j7s {k : Nat} (hk : k ≤ 300) : Back (q4w k) (vput 0) 0 := by
 refine q21 (j0v (n := 0) (by decide) (by decide)) ?_
 rw [if_neg (by omega), if_neg (by omega)]
 rfl
def q5d (item : Rd (List (List UInt8) × VT)) : List Enc → List (List (List UInt8) × VT) → Prop
 | [], ps => ps = []
 | f :: fs, ps => ∃ x xs, ps = x :: xs ∧ (∀ c, Back item (f c).1 x) ∧ q5d item fs xs
theorem q5d.len {item : Rd (List (List UInt8) × VT)} : ∀ {fs : List Enc} {ps : List (List (List UInt8) × VT)}, q5d item fs ps → ps.length = fs.length
 | [], ps, h => by rw [h]; rfl
 | f :: fs, ps, h => by
   obtain ⟨x, xs, rfl, _, h⟩ := h
   rw [List.length_cons, List.length_cons, q5d.len h]
theorem q5d.cut {item : Rd (List (List UInt8) × VT)} : ∀ (n : Nat) {fs : List Enc} {ps : List (List (List UInt8) × VT)}, q5d item fs ps → q5d item (fs.take n) (ps.take n) ∧ q5d item (fs.drop n) (ps.drop n)
 | 0, fs, ps, h => by
   rw [List.take_zero, List.take_zero]
   exact ⟨rfl, h⟩
 | n + 1, [], ps, h => by
   obtain rfl := h
   exact ⟨rfl, rfl⟩
 | n + 1, f :: fs, ps, h => by
   obtain ⟨x, xs, rfl, h1, h2⟩ := h
   obtain ⟨h3, h4⟩ := q5d.cut n h2
   exact ⟨⟨x, xs.take n, rfl, h1, h3⟩, h4⟩
theorem j7w {item : Rd (List (List UInt8) × VT)} : ∀ (fs : List Enc) (ps : List (List (List UInt8) × VT)) (xs : List VT) (ks : List (List UInt8)) (c : Nat), q5d item fs ps → Back (rrow item fs.length xs ks) (seqF fs c).1 (xs ++ ps.map (·.2), ks ++ (ps.map (·.1)).flatten)
 | [], ps, xs, ks, c, h => by
   obtain rfl := h
   rw [seqF]
   have := j2w (xs, ks)
   simpa [rrow] using this
 | f :: fs, ps, xs, ks, c, h => by
   obtain ⟨x, ys, rfl, h1, h2⟩ := h
   rw [seqF, List.length_cons, rrow]
   refine q62 (h1 c) ?_
   have := j7w fs ys (xs ++ [x.2]) (ks ++ x.1) (f c).2 h2
   simpa using this
theorem j7q (cuts : List Int) {item : Rd (List (List UInt8) × VT)} : ∀ (k : Nat) (fs : List Enc) (ps : List (List (List UInt8) × VT)) (z : Nat) (xs : List VT) (ks : List (List UInt8)) (c : Nat), q5d item fs ps → fs.length ≤ k → xs.length + fs.length ≤ 300 → fs.length < z → (blkF cuts k fs c).1.length ≤ 1000000000 →
  Back (q4k item z xs ks) (blkF cuts k fs c).1 (xs ++ ps.map (·.2), ks ++ (ps.map (·.1)).flatten) := by
 intro k
 induction k with
 | zero =>
   intro fs ps z xs ks c h hk hx hz _
   obtain rfl := List.eq_nil_of_length_eq_zero (Nat.le_zero.1 hk)
   obtain rfl := h
   obtain ⟨z, rfl⟩ : ∃ y, z = y + 1 := ⟨z - 1, by omega⟩
   rw [blkF, q4k]
   refine q21 (j7s (by omega)) ?_
   simp
 | succ k ih =>
   intro fs ps z xs ks c h hk hx hz hO
   obtain ⟨z, rfl⟩ : ∃ y, z = y + 1 := ⟨z - 1, by omega⟩
   cases fs with
   | nil =>
     obtain rfl := h
     rw [blkF, q4k]
     refine q21 (j7s (by simpa using hx)) ?_
     simp
   | cons f fs =>
     rw [blkF] at hO ⊢
     simp only [] at hO ⊢
     have hcp := j27 cuts c (fs.length + 1) (by omega)
     obtain ⟨n, sized, e, hQ⟩ : ∃ n s e, cutM cuts c (fs.length + 1) = (n, s, e) := ⟨_, _, _, rfl⟩
     rw [hQ] at hO hcp ⊢
     simp only [] at hO hcp ⊢
     simp only [List.length_append, List.length_cons] at hO hx hk hz
     obtain ⟨h3, h4⟩ := h.cut n
     have hlen := h.len
     have hn1 : ((f :: fs).take n).length = n := by rw [List.length_take, List.length_cons]; omega
     rw [q4k]
     refine q62 (z2o (by omega) (by omega) sized (by omega)) ?_
     rw [if_neg (by omega)]
     have h5 := j7w _ _ xs ks e h3
     rw [hn1] at h5
     refine q62 h5 ?_
     have hl2 : (xs ++ (ps.take n).map (·.2)).length = xs.length + n := by
      rw [List.length_append, List.length_map, List.length_take, hlen, List.length_cons]
      omega
     have := ih _ _ z (xs ++ (ps.take n).map (·.2)) (ks ++ ((ps.take n).map (·.1)).flatten) (seqF ((f :: fs).take n) e).2 h4 (by rw [List.length_drop, List.length_cons]; omega) (by rw [hl2, List.length_drop, List.length_cons]; omega) (by rw [List.length_drop, List.length_cons]; omega) (by omega)
     have e1 : xs ++ ps.map (·.2) = xs ++ (ps.take n).map (·.2) ++ (ps.drop n).map (·.2) := by rw [List.append_assoc, ← List.map_append, List.take_append_drop]
     have e2 : ks ++ (ps.map (·.1)).flatten = ks ++ ((ps.take n).map (·.1)).flatten ++ ((ps.drop n).map (·.1)).flatten := by rw [List.append_assoc, ← List.flatten_append, ← List.map_append, List.take_append_drop]
     rw [e1, e2]
     exact this
theorem j7t {f : Int → Rd VT} : ∀ (ts : List FT) (fs : List Enc) (zs xs : List VT) (c : Nat), fs.length = ts.length → zs.length = ts.length → (∀ (i : Nat) (g : Enc) (z : VT), fs[i]? = some g → zs[i]? = some z → ∀ c, Back (f (tyL ts i)) (g c).1 z) → Back (q5y f ts xs) (seqF fs c).1 (xs ++ zs)
 | [], fs, zs, xs, c, h1, h2, _ => by
   obtain rfl := List.eq_nil_of_length_eq_zero h1
   obtain rfl := List.eq_nil_of_length_eq_zero h2
   rw [seqF, q5y, List.append_nil]
   exact j2w xs
 | t :: ts, [], zs, xs, c, h1, _, _ => by simp at h1
 | t :: ts, g :: fs, [], xs, c, _, h2, _ => by simp at h2
 | t :: ts, g :: fs, z :: zs, xs, c, h1, h2, h => by
   rw [seqF, q5y]
   refine q62 (h 0 g z rfl rfl c) ?_
   have := j7t ts fs zs (xs ++ [z]) (g c).2 (by simpa using h1) (by simpa using h2) fun i g' z' h3 h4 => h (i + 1) g' z' h3 h4
   simpa using this
theorem back_leaf {nd : NT} {n b : Int} {t : List UInt8} (hh : q3a nd nd.kind n b t 0 [] = true) (hk : q3m nd.kind = false) (hb : 0 ≤ b ∧ b < 18446744073709551616) (hg : -9223372036854775808 ≤ n ∧ n ≤ 9223372036854775807) (h10 : nd.kind = 10 → nd.symbols.length ≤ 40) :
  Back (q1w nd) (q2k nd nd.kind n b t) (.mk nd.kind n b t [] []) := by
 have hk9 : nd.kind ≠ 9 ∧ nd.kind ≠ 11 ∧ nd.kind ≠ 12 ∧ nd.kind ≠ 13 := by
  unfold q3m at hk
  simp at hk
  omega
 unfold q3a at hh
 simp only [Bool.and_eq_true, beq_iff_eq, decide_eq_true_eq] at hh
 obtain ⟨⟨_, hvb, ht⟩, hr⟩ := hh
 obtain ⟨v1, v2, v3, _, _⟩ := j4n hvb
 unfold q1w q2k
 by_cases h2 : nd.kind = 2
 · obtain rfl := v2 (by omega)
   obtain rfl := v3 (by omega)
   rw [if_pos h2, if_pos h2]
   rw [if_pos h2] at hr
   simp at hr
   exact q21 (back_bool hr) rfl
 rw [if_neg h2] at hr ⊢
 rw [if_neg h2]
 by_cases h3 : nd.kind = 3
 · obtain rfl := v2 (by omega)
   obtain rfl := v3 (by omega)
   rw [if_pos h3, if_pos (by omega)]
   rw [if_pos h3] at hr
   simp at hr
   exact q21 (j7u hr.1 hr.2) rfl
 rw [if_neg h3] at hr ⊢
 by_cases h4 : nd.kind = 4
 · obtain rfl := v2 (by omega)
   obtain rfl := v3 (by omega)
   rw [if_pos h4, if_pos (by omega)]
   exact q21 (j0v hg.1 hg.2) rfl
 rw [if_neg h4]
 by_cases h5 : nd.kind = 5
 · obtain rfl := v1 (by omega)
   obtain rfl := v3 (by omega)
   rw [if_pos h5, if_neg (by omega), if_pos h5]
   rw [if_pos h5] at hr
   simp at hr
   exact q21 (j7p hb.1 hr) rfl
 rw [if_neg h5] at hr ⊢
 by_cases h6 : nd.kind = 6
 · obtain rfl := v1 (by omega)
   obtain rfl := v3 (by omega)
   rw [if_pos h6, if_neg (by omega), if_neg h5, if_pos h6]
   exact q21 (j7p hb.1 hb.2) rfl
 rw [if_neg h6]
 by_cases h7 : nd.kind = 7
 · obtain rfl := v1 (by omega)
   obtain rfl := v2 (by omega)
   rw [if_pos h7, if_neg (by omega), if_neg h5, if_neg h6, if_pos (by omega)]
   exact q21 (j7r ht) rfl
 rw [if_neg h7]
 by_cases h8 : nd.kind = 8
 · obtain rfl := v1 (by omega)
   obtain rfl := v2 (by omega)
   rw [if_pos h8, if_neg (by omega), if_neg h5, if_neg h6, if_pos (by omega)]
   rw [if_pos h8] at hr
   exact q21 (j7x ht hr) rfl
 rw [if_neg h8] at hr ⊢
 by_cases h14 : nd.kind = 14
 · obtain rfl := v1 (by omega)
   obtain rfl := v2 (by omega)
   rw [if_pos h14, if_neg (by omega), if_neg h5, if_neg h6, if_neg (by omega), if_pos h14]
   rw [if_pos h14] at hr
   simp at hr
   have h := j2v t
   rw [show t.length = nd.size.toNat from by omega] at h
   exact q21 h rfl
 rw [if_neg h14] at hr ⊢
 by_cases h10' : nd.kind = 10
 · obtain rfl := v2 (by omega)
   obtain rfl := v3 (by omega)
   have h40 := h10 h10'
   rw [if_pos h10', if_pos (by omega)]
   rw [if_pos h10'] at hr
   simp at hr
   exact q21 (j7v (j7u (by omega) (by omega)) hr.1 hr.2) rfl
 obtain rfl := v1 (by omega)
 obtain rfl := v2 (by omega)
 obtain rfl := v3 (by omega)
 rw [if_neg h10', if_neg (by omega), if_neg h5, if_neg h6, if_neg (by omega), if_neg h14]
 exact j2w _
theorem j7o {item : Rd (List (List UInt8) × VT)} {ns : List NT} {cuts : List Int} {a : Int} {f : Rd VT} (hi : item = q4x false f) : ∀ xs : List VT, (∀ x ∈ xs, ∀ c, Back f (encM ns cuts a x c).1 x) → q5d item (q1a ns cuts (fun _ => a) xs) (xs.map fun x => ([], x))
 | [], _ => by rw [q1a]; rfl
 | x :: xs, h => by
   rw [q1a]
   refine ⟨_, _, rfl, fun c => ?_, j7o hi xs fun y hy => h y (by simp [hy])⟩
   rw [hi, q4x, if_neg (by decide)]
   exact q21 (h x (by simp) c) rfl
theorem j7n {item : Rd (List (List UInt8) × VT)} {ns : List NT} {cuts : List Int} {a : Int} {f : Rd VT} (hi : item = q4x true f) : ∀ (ks : List (List UInt8)) (xs : List VT), ks.length = xs.length → (∀ y ∈ ks, keyM y = true) → (∀ x ∈ xs, ∀ c, Back f (encM ns cuts a x c).1 x) →
  q5d item (List.zipWith keyF ks (q1a ns cuts (fun _ => a) xs)) (List.zipWith (fun y x => ([y], x)) ks xs)
 | [], [], _, _, _ => by rw [q1a]; rfl
 | [], x :: xs, h, _, _ => by simp at h
 | y :: ks, [], h, _, _ => by simp at h
 | y :: ks, x :: xs, hl, hk, h => by
   rw [q1a, List.zipWith_cons_cons, List.zipWith_cons_cons]
   refine ⟨_, _, rfl, fun c => ?_, j7n hi ks xs (by simpa using hl) (fun z hz => hk z (by simp [hz])) fun z hz => h z (by simp [hz])⟩
   have hy := hk y (by simp)
   unfold keyM at hy
   simp at hy
   rw [hi, q4x, if_pos rfl, keyF]
   refine q62 (j7x hy.1 hy.2) ?_
   exact q21 (h x (by simp) c) rfl
theorem z2e : ∀ (ks : List (List UInt8)) (xs : List VT), ks.length = xs.length → (List.zipWith (fun y x => (([y] : List (List UInt8)), x)) ks xs).map (·.2) = xs ∧ ((List.zipWith (fun y x => (([y] : List (List UInt8)), x)) ks xs).map (·.1)).flatten = ks
 | [], [], _ => ⟨rfl, rfl⟩
 | [], x :: xs, h => by simp at h
 | y :: ks, [], h => by simp at h
 | y :: ks, x :: xs, h => by
   obtain ⟨h1, h2⟩ := z2e ks xs (by simpa using h)
   rw [List.zipWith_cons_cons, List.map_cons, List.map_cons, List.flatten_cons, h1, h2]
   exact ⟨rfl, rfl⟩
theorem z1o : ∀ {xs : List VT}, VT.inrL xs → ∀ x ∈ xs, x.inr
 | x :: xs, h, y, hy => by
   rcases List.mem_cons.1 hy with rfl | hy
   · exact h.1
   · exact z1o h.2 y hy
section
open Go.RowKit Go.ChangeShapes Go.WideShapes Go.ChangeAt
inductive TyPV (P : Program) : TypeId → List PV → Prop
 | bool {t : TypeId} {b : Bool} (ht : P.underlying t = some .bool) : TyPV P t [.v (.bool b)]
 | int {t : TypeId} {k : IntKind} {n : Int} (ht : P.underlying t = some (.int k)) (hw : (Lit.int k n).wf = true) : TyPV P t [.v (.int k n)]
 | str {t : TypeId} {s : ByteArray} (ht : P.underlying t = some .string) (hs : s.size ≤ maxLen) : TyPV P t [.v (.string s)]
 | sl {t e : TypeId} {es : List (List PV)} (ht : P.underlying t = some (.slice e)) (hx : ∀ q ∈ es, TyPV P e q) : TyPV P t [.sl (P.cellsOf e) es]
 | struct {t : TypeId} {fs : Array Field} {ps : List PV} (ht : P.underlying t = some (.struct fs)) (hl : ps.length = P.cellsOf t)
   (hx : ∀ (i : Nat) (f : Field), fs[i]? = some f → TyPV P f.type ((ps.drop f.offset).take (P.cellsOf f.type))) : TyPV P t ps
def tiles (P : Program) : List Field → Nat → Nat → Bool
 | [], o, n => o == n
 | f :: fs, o, n => f.offset == o && tiles P fs (o + P.cellsOf f.type) n
def plainB (P : Program) (l : List TypeId) : Bool := l.all fun t => match P.underlying t with
 | some .bool => P.cellsOf t == 1 | some (.int _) => P.cellsOf t == 1 | some .string => P.cellsOf t == 1
 | some (.slice e) => l.contains e && decide (0 < P.cellsOf e) && (P.cellsOf t == 1)
 | some (.struct fs) => tiles P fs.toList 0 (P.cellsOf t) && fs.toList.all fun f => l.contains f.type
 | _ => false
theorem list_of {α : Type} {p : Nat → α → Prop} : ∀ (n : Nat), (∀ i, i < n → ∃ y, p i y) → ∃ l : List α, l.length = n ∧ ∀ (i : Nat) (y : α), l[i]? = some y → p i y
 | 0, _ => ⟨[], rfl, fun i y h => by simp at h⟩
 | n + 1, h => by
   obtain ⟨l, h1, h2⟩ := list_of n fun i hi => h i (by omega)
   obtain ⟨y, hy⟩ := h n (by omega)
   refine ⟨l ++ [y], by simp [h1], fun i z hz => ?_⟩
   by_cases hi : i < l.length
   · rw [List.getElem?_append_left hi] at hz
     exact h2 i z hz
   · rw [List.getElem?_append_right (by omega)] at hz
     cases hj : i - l.length with
     | zero =>
       rw [hj] at hz
       simp at hz
       subst hz
       rw [show i = n by omega]
       exact hy
     | succ j => rw [hj] at hz; simp at hz
section
variable {P : Program} {w : World}
theorem q3z.cons_app {ro : Nat → Prop} {p q : List PV} {v u : List Value} (h : q3z w ro p v) (h' : q3z w ro q u) : q3z w ro (p ++ q) (v ++ u) := by
 refine ⟨by simp [h.1, h'.1], fun j x y h1 h2 => ?_⟩
 by_cases hj : j < p.length
 · rw [List.getElem?_append_left hj] at h1
   rw [List.getElem?_append_left (by rw [h.1]; exact hj)] at h2
   exact h.2 j x y h1 h2
 · rw [List.getElem?_append_right (by omega)] at h1
   rw [List.getElem?_append_right (by rw [h.1]; omega), h.1] at h2
   exact h'.2 _ x y h1 h2
theorem tile_rep {ro : Nat → Prop} {cs : List Value} {n : Nat} (hn : cs.length = n) : ∀ (fs : List Field) (o : Nat), o ≤ n → tiles P fs o n = true →
  (∀ f ∈ fs, ∃ q, q3z w ro q ((cs.drop f.offset).take (P.cellsOf f.type)) ∧ q.length = P.cellsOf f.type ∧ TyPV P f.type q) →
  ∃ ps, q3z w ro ps (cs.drop o) ∧ ps.length = n - o ∧ ∀ (i : Nat) (f : Field), fs[i]? = some f → o ≤ f.offset ∧ TyPV P f.type ((ps.drop (f.offset - o)).take (P.cellsOf f.type)) := by
 intro fs
 induction fs with
 | nil =>
   intro o ho ht _
   simp [tiles] at ht
   subst ht
   exact ⟨[], ⟨by simp [← hn], by simp⟩, by simp, by simp⟩
 | cons f fs ih =>
   intro o ho ht hf
   simp only [tiles, Bool.and_eq_true, beq_iff_eq] at ht
   obtain ⟨h1, h2⟩ := ht
   obtain ⟨q, hq1, hq2, hq3⟩ := hf f (by simp)
   have hle : o + P.cellsOf f.type ≤ n := by
    have := hq1.1
    rw [hq2, List.length_take, List.length_drop, h1, hn] at this
    omega
   obtain ⟨ps, hp1, hp2, hp3⟩ := ih _ hle h2 fun g hg => hf g (by simp [hg])
   have hsp : cs.drop o = (cs.drop o).take (P.cellsOf f.type) ++ cs.drop (o + P.cellsOf f.type) := by
    rw [← List.drop_drop, List.take_append_drop]
   refine ⟨q ++ ps, ?_, by simp [hq2, hp2]; omega, fun i g hg => ?_⟩
   · rw [hsp]
     rw [h1] at hq1
     exact hq1.cons_app hp1
   · cases i with
     | zero =>
       simp at hg
       subst hg
       refine ⟨by omega, ?_⟩
       rw [h1, Nat.sub_self, List.drop_zero, ← hq2, List.take_left]
       exact hq3
     | succ i =>
       simp at hg
       obtain ⟨h3, h4⟩ := hp3 i g hg
       refine ⟨by omega, ?_⟩
       rw [show g.offset - o = q.length + (g.offset - (o + P.cellsOf f.type)) by omega, List.drop_append, List.drop_of_length_le (by omega), List.nil_append, Nat.add_sub_cancel_left]
       exact h4
variable {H : Type} {enc : TypeId × Value → H} {sp : Nat → Bool} {held : Bool}
theorem j58 {W : World} {ro : Nat → Prop} {v : Value} (hv : v.oneCell' = true) : q3z W ro [.v v] [v] := ⟨rfl, fun j p u h1 h2 => by
 cases j with
 | zero => simp at h1 h2; subst h1 h2; exact .v hv
 | succ j => simp at h1⟩
theorem open_pv {l : List TypeId} (hl : plainB P l = true) : ∀ (fuel : Nat) (t : TypeId) (cs : List Value) (x : DataW H × List MemPlace), t ∈ l → DataW.trod enc P w 0 sp held fuel t cs = some x →
  ∃ ps, q3z w (fun b => b < w.heap.size) ps cs ∧ ps.length = P.cellsOf t ∧ TyPV P t ps := by
 intro fuel
 induction fuel using Nat.strongRecOn with
 | ind fuel ih =>
 intro t cs x ht h
 have hk := List.all_eq_true.1 hl t ht
 split at hk
 · rename_i hu
   obtain ⟨b, rfl, _⟩ := DataW.trod_bool hu h
   exact ⟨_, j58 rfl, (by simpa using hk : P.cellsOf t = 1).symm, .bool hu⟩
 · rename_i k hu
   obtain ⟨n, rfl, _, hw⟩ := DataW.trod_int hu h
   exact ⟨_, j58 rfl, (by simpa using hk : P.cellsOf t = 1).symm, .int hu hw⟩
 · rename_i hu
   obtain ⟨s, rfl, _, hs⟩ := DataW.trod_string hu h
   exact ⟨_, j58 rfl, (by simpa using hk : P.cellsOf t = 1).symm, .str hu hs⟩
 · rename_i e hu
   simp only [Bool.and_eq_true, List.contains_iff_mem, decide_eq_true_eq, beq_iff_eq] at hk
   obtain ⟨⟨he, hz⟩, hone⟩ := hk
   rcases DataW.trod_slice hu h with ⟨rfl, _⟩ | ⟨a, len, cap, elems, rest, n, rfl, rfl, _, hb, h1, h2, h3, h4, _, _⟩
   · exact ⟨[.sl (P.cellsOf e) []], ⟨rfl, fun j p u g1 g2 => by
      cases j with
      | zero => simp at g1 g2; subst g1 g2; exact PRep.nil _ _ _
      | succ j => simp at g1⟩, hone.symm, .sl hu (by simp)⟩
   · have hex : ∀ i, i < len → ∃ y : List Value × List PV, w.cells? 0 (a.add (i * P.cellsOf e)) (P.cellsOf e) = some y.1 ∧ q3z w (fun b => b < w.heap.size) y.2 y.1 ∧ y.2.length = P.cellsOf e ∧ TyPV P e y.2 := by
      intro i hi
      have h5 := h4 i hi
      rw [List.getElem?_eq_getElem (show i < elems.length by omega), Option.bind_eq_some_iff] at h5
      obtain ⟨vs, h6, h7⟩ := h5
      obtain ⟨q, h8, h9, h10⟩ := ih n (by omega) e vs _ he h7
      exact ⟨(vs, q), h6, h8, h9, h10⟩
     obtain ⟨L, hL, hLx⟩ := list_of len hex
     have hcell : ∀ (i : Nat) (y : List Value × List PV), L[i]? = some y → y.1.length = P.cellsOf e ∧ ∀ j, j < P.cellsOf e → w.cell? ((a.add (i * P.cellsOf e)).add j) = y.1[j]? := fun i y hy => (World.cells?_some (hLx i y hy).1).2
     have hlen : len = (L.map (·.2)).length := by simp [hL]
     refine ⟨[.sl (P.cellsOf e) (L.map (·.2))], ⟨rfl, fun j p u g1 g2 => ?_⟩, hone.symm, .sl hu fun q hq => ?_⟩
     · cases j with
       | succ j => simp at g1
       | zero =>
       simp at g1 g2
       subst g1 g2
       rw [hlen]
       refine .sl (vss := L.map (·.1)) (by omega) (by unfold maxLen at h2; omega) (fun hn => by simp at hn) (fun hne => ?_) (by simp) (fun i q hq => ?_) (fun i vs hvs => ?_) (fun i j q vs p u hq hvs hp hv => ?_)
       · have hpos : 0 < L.length := List.length_pos_iff.2 (by intro e; apply hne; simp [e])
         obtain ⟨y0, hy0⟩ : ∃ y, L[0]? = some y := ⟨L[0], List.getElem?_eq_getElem hpos⟩
         obtain ⟨c1, c2⟩ := hcell 0 y0 hy0
         have c3 := c2 0 hz
         rw [List.getElem?_eq_getElem (show 0 < y0.1.length by omega)] at c3
         simp only [Nat.zero_mul] at c3
         have hspot := World.cell?_spot c3
         have hlt : a.block < w.heap.size := by
          unfold World.cell? at c3
          have : (a.add 0).add 0 = a := by simp [Addr.add]
          rw [this] at c3
          split at c3
          · rename_i hh
            exact (Array.getElem?_eq_some_iff.1 hh).1
          · simp at c3
         have ha : a = ⟨a.block, a.off, none⟩ := by
          cases a
          simp [Addr.add] at hspot
          simp [hspot]
         refine ⟨a.block, a.off, by rw [← ha], hlt, fun i vs hvs j hj => ?_⟩
         rw [List.getElem?_map] at hvs
         cases hq : L[i]? with
         | none => rw [hq] at hvs; simp at hvs
         | some y =>
           rw [hq] at hvs
           obtain rfl := Option.some.inj hvs
           obtain ⟨d1, d2⟩ := hcell i y hq
           have hj' : j < y.1.length := hj
           rw [← d2 j (by omega), ha, q7r, q7r]
       · rw [List.getElem?_map] at hq
         cases hy : L[i]? with
         | none => rw [hy] at hq; simp at hq
         | some y =>
           rw [hy] at hq
           obtain rfl := Option.some.inj hq
           exact (hLx i y hy).2.2.1
       · rw [List.getElem?_map] at hvs
         cases hy : L[i]? with
         | none => rw [hy] at hvs; simp at hvs
         | some y =>
           rw [hy] at hvs
           obtain rfl := Option.some.inj hvs
           exact (hcell i y hy).1
       · rw [List.getElem?_map] at hq hvs
         cases hy : L[i]? with
         | none => rw [hy] at hq; simp at hq
         | some y =>
           rw [hy] at hq hvs
           obtain rfl := Option.some.inj hq
           obtain rfl := Option.some.inj hvs
           exact (hLx i y hy).2.1.2 j p u hp hv
     · obtain ⟨y, hy, rfl⟩ := List.mem_map.1 hq
       obtain ⟨i, hi⟩ := List.mem_iff_getElem?.1 hy
       exact (hLx i y hi).2.2.2
 · rename_i fs hu
   simp only [Bool.and_eq_true] at hk
   obtain ⟨htl, hin⟩ := hk
   obtain ⟨xs, n, rfl, _, h1, h2, h3⟩ := DataW.trod_struct hu h
   obtain ⟨ps, hp1, hp2, hp3⟩ := tile_rep (P := P) (w := w) (ro := fun b => b < w.heap.size) (cs := cs) h1 fs.toList 0 (Nat.zero_le _) htl fun f hf => by
    obtain ⟨i, hi⟩ := List.mem_iff_getElem?.1 hf
    have hi' : fs[i]? = some f := by simpa using hi
    have hlt := (Array.getElem?_eq_some_iff.1 hi').1
    have h4 := h3 i f hi'
    rw [List.getElem?_eq_getElem (show i < xs.length by omega)] at h4
    have hm : f.type ∈ l := by simpa using List.all_eq_true.1 hin f hf
    obtain ⟨q, h5, h6, h7⟩ := ih n (by omega) f.type _ _ hm h4
    exact ⟨q, h5, h6, h7⟩
   refine ⟨ps, by simpa using hp1, by rw [hp2]; simp, .struct hu (by rw [hp2]; simp) fun i f hf => ?_⟩
   simpa using (hp3 i f (by simpa using hf)).2
 · simp at hk
def TyAV (P : Program) (t : TypeId) (x : AV) : Prop := ∃ ps, TyPV P t ps ∧ (((∃ fs, P.underlying t = some (.struct fs)) ∧ x = .agg (ps.map .c)) ∨ ((∀ fs, P.underlying t ≠ some (.struct fs)) ∧ ∃ q, ps = [q] ∧ x = .c q))
theorem prepL_rep {W : World} {ro : Nat → Prop} {φ : Nat → Value} {h : Nat → Option Blkd} {ps : List PV} {cs : List Value} (hp : q3z W ro ps cs) : Rep W ro φ h (.agg (ps.map .c)) (.agg cs.toArray) := by
 refine .agg (by simp [hp.1]) fun j x v h1 h2 => ?_
 rw [List.getElem?_map] at h1
 cases hq : ps[j]? with
 | none => rw [hq] at h1; simp at h1
 | some p =>
   rw [hq] at h1
   obtain rfl := Option.some.inj h1
   exact .c (hp.2 j p v hq h2)
theorem prepL_one {W : World} {ro : Nat → Prop} {φ : Nat → Value} {h : Nat → Option Blkd} {ps : List PV} {v : Value} (hp : q3z W ro ps [v]) : ∃ q, ps = [q] ∧ Rep W ro φ h (.c q) v := by
 have := hp.1
 match ps, this with
 | [q], _ => exact ⟨q, rfl, .c (hp.2 0 q v rfl rfl)⟩
theorem j30 {l : List TypeId} (hl : plainB P l = true) {t : TypeId} (ht : t ∈ l) {r : Reach} {base : Nat} {v : Value} {d : DataW H} {p : List MemPlace} (hval : Value.okWide P w r base t v) (h : DataW.Trod enc P w 0 sp held t v d p) :
  ∃ x, TyAV P t x ∧ Rep w (fun b => b < w.heap.size) φ0 h0 x v := by
 obtain ⟨fuel, hf⟩ := h
 obtain ⟨ps, h1, _, h3⟩ := open_pv hl fuel t _ _ ht hf
 have hk := List.all_eq_true.1 hl t ht
 have key : (∀ fs, P.underlying t ≠ some (.struct fs)) → v.cells.toList = [v] → ∃ x, TyAV P t x ∧ Rep w (fun b => b < w.heap.size) φ0 h0 x v := by
  intro hn hc
  rw [hc] at h1
  obtain ⟨q, rfl, hr⟩ := prepL_one (φ := φ0) (h := h0) h1
  exact ⟨_, ⟨_, h3, .inr ⟨hn, q, rfl, rfl⟩⟩, hr⟩
 split at hk
 · rename_i hu
   obtain ⟨b, rfl⟩ := okWide_bool hu hval
   exact key (by simp [hu]) rfl
 · rename_i k hu
   obtain ⟨n, rfl⟩ := okWide_int hu hval
   exact key (by simp [hu]) rfl
 · rename_i hu
   obtain ⟨s, rfl⟩ := okWide_string hu hval
   exact key (by simp [hu]) rfl
 · rename_i e hu
   obtain ⟨a, len, cap, rfl⟩ := okWide_slice hu hval
   exact key (by simp [hu]) rfl
 · rename_i fs hu
   obtain ⟨cs, rfl, _⟩ := okWide_struct hu hval
   exact ⟨_, ⟨_, h3, .inl ⟨⟨fs, hu⟩, rfl⟩⟩, by simpa [Value.cells] using prepL_rep h1⟩
 · simp at hk
theorem reps_nil {W : World} {ro : Nat → Prop} {φ : Nat → Value} {h : Nat → Option Blkd} : ∀ (j : Nat) (x : AV) (v : Value), ([] : List AV)[j]? = some x → ([] : List Value)[j]? = some v → Rep W ro φ h x v := fun j x v h1 => by simp at h1
theorem j35 {W : World} {ro : Nat → Prop} {φ : Nat → Value} {h : Nat → Option Blkd} {y : AV} {u : Value} {l : List AV} {vs : List Value} (hy : Rep W ro φ h y u) (hs : ∀ (j : Nat) (x : AV) (v : Value), l[j]? = some x → vs[j]? = some v → Rep W ro φ h x v) :
  ∀ (j : Nat) (x : AV) (v : Value), (y :: l)[j]? = some x → (u :: vs)[j]? = some v → Rep W ro φ h x v := fun j x v h1 h2 => by
 cases j with
 | zero => simp at h1 h2; subst h1 h2; exact hy
 | succ j => exact hs j x v (by simpa using h1) (by simpa using h2)
end
end
section

section
variable {P : Program}
theorem q6g {t : TypeId} {k : IntKind} {ps : List PV} (h : TyPV P t ps) (hu : P.underlying t = some (.int k)) : ∃ n, ps = [.v (.int k n)] ∧ (Lit.int k n).wf = true := by
 cases h with
 | int ht hw => obtain rfl := TypeDesc.int.inj (Option.some.inj (ht.symm.trans hu)); exact ⟨_, rfl, hw⟩
 | bool ht => simp [ht] at hu
 | str ht hs => simp [ht] at hu
 | sl ht hx => simp [ht] at hu
 | struct ht hl hx => simp [ht] at hu
theorem ty_bool {t : TypeId} {ps : List PV} (h : TyPV P t ps) (hu : P.underlying t = some .bool) : ∃ b, ps = [.v (.bool b)] := by
 cases h with
 | bool ht => exact ⟨_, rfl⟩
 | int ht hw => simp [ht] at hu
 | str ht hs => simp [ht] at hu
 | sl ht hx => simp [ht] at hu
 | struct ht hl hx => simp [ht] at hu
theorem j2n {t : TypeId} {ps : List PV} (h : TyPV P t ps) (hu : P.underlying t = some .string) : ∃ s : List UInt8, ps = [.v (.string (str s))] ∧ s.length ≤ maxLen := by
 cases h with
 | @str _ s ht hs => exact ⟨s.data.toList, by rw [str_of], by rw [← q2a, str_of]; exact hs⟩
 | bool ht => simp [ht] at hu
 | int ht hw => simp [ht] at hu
 | sl ht hx => simp [ht] at hu
 | struct ht hl hx => simp [ht] at hu
theorem ty_sl {t e : TypeId} {ps : List PV} (h : TyPV P t ps) (hu : P.underlying t = some (.slice e)) : ∃ es, ps = [.sl (P.cellsOf e) es] ∧ ∀ q ∈ es, TyPV P e q := by
 cases h with
 | sl ht hx => obtain rfl := TypeDesc.slice.inj (Option.some.inj (ht.symm.trans hu)); exact ⟨_, rfl, hx⟩
 | bool ht => simp [ht] at hu
 | int ht hw => simp [ht] at hu
 | str ht hs => simp [ht] at hu
 | struct ht hl hx => simp [ht] at hu
theorem j1p {α β : Type} {f : α → β} : ∀ {l : List β}, (∀ y ∈ l, ∃ x, y = f x) → ∃ m : List α, l = m.map f
 | [], _ => ⟨[], rfl⟩
 | y :: l, h => by
   obtain ⟨x, rfl⟩ := h y (by simp)
   obtain ⟨m, rfl⟩ := j1p (l := l) fun z hz => h z (by simp [hz])
   exact ⟨x :: m, rfl⟩
theorem j9l {α β : Type} {f : α → β} {p : α → Prop} : ∀ {l : List β}, (∀ y ∈ l, ∃ x, p x ∧ y = f x) → ∃ m : List α, (∀ x ∈ m, p x) ∧ l = m.map f
 | [], _ => ⟨[], by simp, rfl⟩
 | y :: l, h => by
   obtain ⟨x, hx, rfl⟩ := h y (by simp)
   obtain ⟨m, hm, rfl⟩ := j9l (l := l) fun z hz => h z (by simp [hz])
   exact ⟨x :: m, fun z hz => by rcases List.mem_cons.1 hz with rfl | hz; exact hx; exact hm z hz, rfl⟩
theorem wf64 {n : Int} (h : (Lit.int .i64 n).wf = true) : -9223372036854775808 ≤ n ∧ n ≤ 9223372036854775807 := by
 simp [Lit.wf, IntKind.min, IntKind.max, IntKind.signed, IntKind.bits] at h
 omega
theorem split5 {α : Type} {l : List α} (h : l.length = 5) : ∃ a b c d e, l = [a, b, c, d, e] := by
 match l, h with
 | [a, b, c, d, e], _ => exact ⟨a, b, c, d, e, rfl⟩
end
theorem fld_of {P : Program} {t : TypeId} {T : TyA} {fs : Array Field} (hT : tyA P t = some T) (hu : P.underlying t = some (.struct fs)) {i o : Nat} {t' : TypeId} (h : T.flds[i]? = some (o, t')) : ∃ f, fs[i]? = some f ∧ f.offset = o ∧ f.type = t' := by
 obtain ⟨d, ii, h1, _, rfl⟩ := q1d hT
 obtain rfl := Option.some.inj (hu.symm.trans h1)
 simp only [j1g, List.getElem?_map] at h
 cases hq : fs.toList[i]? with
 | none => rw [hq] at h; simp at h
 | some f =>
   rw [hq] at h
   simp at h
   exact ⟨f, by simpa using hq, h.1, h.2⟩
theorem q6j {P : Program} {t : TypeId} {T : TyA} (hT : tyA P t = some T) : P.cellsOf t = T.size := by
 obtain ⟨d, ii, _, h2, rfl⟩ := q1d hT
 simp [Program.cellsOf, h2]
theorem j4l {ps : List PV} (h : TyPV Tryz.prog 29 ps) : ∃ ks : List (List UInt8), ps = [.sl 1 (ks.map sPV)] := by
 obtain ⟨es, rfl, hx⟩ := ty_sl h Tryz.underlying29
 rw [q6j q5l]
 obtain ⟨ks, rfl⟩ := j1p (f := sPV) fun q hq => by
  obtain ⟨s, rfl, _⟩ := j2n (hx q hq) Tryz.underlying9
  exact ⟨s, rfl⟩
 exact ⟨ks, rfl⟩
theorem j4k {P : Program} {t : TypeId} {T : TyA} {ps : List PV} (h : TyPV P t ps) (hT : tyA P t = some T) (hk : T.kind = 3) :
  ps.length = T.size ∧ ∀ (i o : Nat) (t' : TypeId), T.flds[i]? = some (o, t') → ∀ T', tyA P t' = some T' → TyPV P t' ((ps.drop o).take T'.size) := by
 obtain ⟨d, ii, h1, h2, h3⟩ := q1d hT
 obtain ⟨fs, rfl⟩ := j55 (d := d) (by rw [h3] at hk; exact hk)
 cases h with
 | struct ht hlen hx =>
   obtain rfl := TypeDesc.struct.inj (Option.some.inj (ht.symm.trans h1))
   refine ⟨by rw [← q6j hT]; exact hlen, fun i o t' h T' hT' => ?_⟩
   obtain ⟨f, hf, rfl, rfl⟩ := fld_of hT h1 h
   rw [← q6j hT']
   exact hx i f hf
 | bool ht => simp [ht] at h1
 | int ht hw => simp [ht] at h1
 | str ht hs => simp [ht] at h1
 | sl ht hx => simp [ht] at h1
theorem ty_json : ∀ {t : TypeId} {ps : List PV}, TyPV Tryz.prog t ps → (t = 36 → ∃ j : JT, j.inr ∧ ps = j.cells) ∧ (t = 34 → ∃ xs : List JT, JT.inrL xs ∧ ps = [.sl 5 (xs.map JT.cells)]) := by
 intro t ps h
 induction h with
 | bool ht => exact ⟨fun e => by subst e; simp [Tryz.underlying36] at ht, fun e => by subst e; simp [Tryz.underlying34] at ht⟩
 | int ht hw => exact ⟨fun e => by subst e; simp [Tryz.underlying36] at ht, fun e => by subst e; simp [Tryz.underlying34] at ht⟩
 | str ht hs => exact ⟨fun e => by subst e; simp [Tryz.underlying36] at ht, fun e => by subst e; simp [Tryz.underlying34] at ht⟩
 | @sl t e es ht hx ih =>
   refine ⟨fun e => by subst e; simp [Tryz.underlying36] at ht, fun e => ?_⟩
   subst e
   obtain rfl := TypeDesc.slice.inj (Option.some.inj (ht.symm.trans Tryz.underlying34))
   obtain ⟨xs, hxs, rfl⟩ := j9l (f := JT.cells) (p := JT.inr) fun q hq => (ih q hq).1 rfl
   exact ⟨xs, inrL_of hxs, by rw [q6j q6e]⟩
 | @struct t fs ps ht hl hx ih =>
   refine ⟨fun e => ?_, fun e => by subst e; simp [Tryz.underlying34] at ht⟩
   subst e
   have hT := q6e
   obtain ⟨a0, a1, a2, a3, a4, rfl⟩ := split5 (hl.trans (q6j hT))
   obtain ⟨_, hf⟩ := j4k (.struct ht hl hx) hT rfl
   obtain ⟨k, h0, _⟩ := q6g (hf 0 _ _ rfl _ q4y) Tryz.underlying3
   obtain ⟨n, h1, hw⟩ := q6g (hf 1 _ _ rfl _ q7f) Tryz.underlying2
   obtain ⟨s, h2, _⟩ := j2n (hf 2 _ _ rfl _ q5l) Tryz.underlying9
   obtain ⟨ks, h4⟩ := j4l (hf 4 _ _ rfl _ q50)
   obtain ⟨f, g1, g2, g3⟩ := fld_of hT ht (i := 3) rfl
   obtain ⟨xs, hxs, h3⟩ := (ih 3 f g1).2 g3
   rw [g2, g3, q6j q7k] at h3
   simp at h0 h1 h2 h3 h4
   subst h0 h1 h2 h3 h4
   exact ⟨.mk k n s ks xs, ⟨wf64 hw, hxs⟩, (q0n _ _ _ _ _).symm⟩
end

theorem q43 {α : Type} (l : List α) (o k : Nat) : l.drop o = (l.drop o).take k ++ l.drop (o + k) := by rw [← List.drop_drop, List.take_append_drop]
theorem ty_ints {ps : List PV} (h : TyPV Tryz.prog 31 ps) : ∃ ns : List Int, ps = [.sl 1 (ns.map iPV)] := by
 obtain ⟨es, rfl, hx⟩ := ty_sl h Tryz.underlying31
 rw [q6j q4y]
 obtain ⟨ns, rfl⟩ := j1p (f := iPV) fun q hq => by
  obtain ⟨n, rfl, _⟩ := q6g (hx q hq) Tryz.underlying3
  exact ⟨n, rfl⟩
 exact ⟨ns, rfl⟩
theorem ty_field {ps : List PV} (h : TyPV Tryz.prog 38 ps) : ∃ f : FT, ps = f.cells := by
 obtain ⟨hl, hf⟩ := j4k h q6u rfl
 obtain ⟨a, h0, _⟩ := j2n (hf 0 _ _ rfl _ q5l) Tryz.underlying9
 obtain ⟨b, h1⟩ := j4l (hf 1 _ _ rfl _ q50)
 obtain ⟨c, h2, _⟩ := q6g (hf 2 _ _ rfl _ q4y) Tryz.underlying3
 obtain ⟨d, h3⟩ := ty_bool (hf 3 _ _ rfl _ q6v) Tryz.underlying4
 obtain ⟨e, _, h4⟩ := (ty_json (hf 4 _ _ rfl _ q6e)).1 rfl
 have e0 : ps = (ps.drop 0).take 1 ++ ps.drop 1 := q43 ps 0 1
 have e1 : ps.drop 1 = (ps.drop 1).take 1 ++ ps.drop 2 := q43 ps 1 1
 have e2 : ps.drop 2 = (ps.drop 2).take 1 ++ ps.drop 3 := q43 ps 2 1
 have e3 : ps.drop 3 = (ps.drop 3).take 1 ++ ps.drop 4 := q43 ps 3 1
 have e4 : ps.drop 4 = (ps.drop 4).take 5 := (List.take_of_length_le (by rw [List.length_drop, hl]; decide)).symm
 exact ⟨⟨a, b, c, d, e⟩, e0.trans (by rw [h0, e1, h1, e2, h2, e3, h3, e4, h4]; rfl)⟩
theorem z52 {ps : List PV} (h : TyPV Tryz.prog 30 ps) : ∃ fs : List FT, ps = [.sl 9 (fs.map FT.cells)] := by
 obtain ⟨es, rfl, hx⟩ := ty_sl h Tryz.underlying30
 rw [q6j q6u]
 obtain ⟨ns, rfl⟩ := j1p (f := FT.cells) fun q hq => ty_field (hx q hq)
 exact ⟨ns, rfl⟩
theorem ty_node {ps : List PV} (h : TyPV Tryz.prog 33 ps) : ∃ n : NT, ps = n.cells := by
 obtain ⟨hl, hf⟩ := j4k h q6t rfl
 obtain ⟨a0, h0, _⟩ := q6g (hf 0 _ _ rfl _ q4y) Tryz.underlying3
 obtain ⟨a1, h1, _⟩ := j2n (hf 1 _ _ rfl _ q5l) Tryz.underlying9
 obtain ⟨a2, h2⟩ := j4l (hf 2 _ _ rfl _ q50)
 obtain ⟨a3, h3⟩ := z52 (hf 3 _ _ rfl _ q7i)
 obtain ⟨a4, h4⟩ := j4l (hf 4 _ _ rfl _ q50)
 obtain ⟨a5, h5⟩ := ty_bool (hf 5 _ _ rfl _ q6v) Tryz.underlying4
 obtain ⟨a6, h6, _⟩ := j2n (hf 6 _ _ rfl _ q5l) Tryz.underlying9
 obtain ⟨a7, h7, _⟩ := q6g (hf 7 _ _ rfl _ q4y) Tryz.underlying3
 obtain ⟨a8, h8, _⟩ := q6g (hf 8 _ _ rfl _ q4y) Tryz.underlying3
 obtain ⟨a9, h9⟩ := ty_ints (hf 9 _ _ rfl _ q7j)
 have e0 : ps = (ps.drop 0).take 1 ++ ps.drop 1 := q43 ps 0 1
 have e1 : ps.drop 1 = (ps.drop 1).take 1 ++ ps.drop 2 := q43 ps 1 1
 have e2 : ps.drop 2 = (ps.drop 2).take 1 ++ ps.drop 3 := q43 ps 2 1
 have e3 : ps.drop 3 = (ps.drop 3).take 1 ++ ps.drop 4 := q43 ps 3 1
 have e4 : ps.drop 4 = (ps.drop 4).take 1 ++ ps.drop 5 := q43 ps 4 1
 have e5 : ps.drop 5 = (ps.drop 5).take 1 ++ ps.drop 6 := q43 ps 5 1
 have e6 : ps.drop 6 = (ps.drop 6).take 1 ++ ps.drop 7 := q43 ps 6 1
 have e7 : ps.drop 7 = (ps.drop 7).take 1 ++ ps.drop 8 := q43 ps 7 1
 have e8 : ps.drop 8 = (ps.drop 8).take 1 ++ ps.drop 9 := q43 ps 8 1
 have e9 : ps.drop 9 = (ps.drop 9).take 1 := (List.take_of_length_le (by rw [List.length_drop, hl]; decide)).symm
 exact ⟨⟨a0, a1, a2, a3, a4, a5, a6, a7, a8, a9⟩, e0.trans (by rw [h0, e1, h1, e2, h2, e3, h3, e4, h4, e5, h5, e6, h6, e7, h7, e8, h8, e9, h9]; rfl)⟩
theorem z2n {x : AV} (h : TyAV Tryz.prog 24 x) : ∃ s : ST, x = s.av := by
 obtain ⟨ps, h1, h2⟩ := h
 obtain ⟨hl, hf⟩ := j4k h1 q7h rfl
 obtain ⟨es, h3, hx⟩ := ty_sl (hf 0 _ _ rfl _ q7g) Tryz.underlying22
 rw [q6j q6t] at h3
 obtain ⟨ns, rfl⟩ := j1p (f := NT.cells) fun q hq => ty_node (hx q hq)
 obtain ⟨r, h4, _⟩ := q6g (hf 1 _ _ rfl _ q4y) Tryz.underlying3
 have e0 : ps = (ps.drop 0).take 1 ++ ps.drop 1 := q43 ps 0 1
 have e1 : ps.drop 1 = (ps.drop 1).take 1 := (List.take_of_length_le (by rw [List.length_drop, hl]; decide)).symm
 have hp : ps = (ST.mk ns r).cells := e0.trans (by rw [h3, e1, h4]; rfl)
 subst hp
 rcases h2 with ⟨_, rfl⟩ | ⟨h2, _⟩
 · exact ⟨_, rfl⟩
 · exact absurd Tryz.underlying24 (h2 _)

theorem ty_bytes {ps : List PV} (h : TyPV Tryz.prog 40 ps) : ∃ l : List UInt8, ps = [.sl 1 (q0e l)] := by
 obtain ⟨es, rfl, hx⟩ := ty_sl h Tryz.underlying40
 rw [q6j q51]
 obtain ⟨l, rfl⟩ := j1p (f := fun b : UInt8 => [PV.v (.int .u8 (b.toNat : Int))]) fun q hq => by
  obtain ⟨n, rfl, hw⟩ := q6g (hx q hq) Tryz.underlying5
  simp [Lit.wf, IntKind.min, IntKind.max, IntKind.signed, IntKind.bits] at hw
  refine ⟨n.toNat.toUInt8, ?_⟩
  have : ((n.toNat.toUInt8).toNat : Int) = n := by simp; omega
  rw [this]
 exact ⟨l, rfl⟩
theorem arg_place {x : AV} (h : TyAV Tryz.prog 3 x) : ∃ n : Int, (-9223372036854775808 ≤ n ∧ n ≤ 9223372036854775807) ∧ x = .c (.v (.int .i64 n)) := by
 obtain ⟨ps, h1, h2⟩ := h
 obtain ⟨n, rfl, hn⟩ := q6g h1 Tryz.underlying3
 rcases h2 with ⟨⟨fs, h2⟩, _⟩ | ⟨_, q, h2, rfl⟩
 · simp [Tryz.underlying3] at h2
 · simp at h2
   subst h2
   exact ⟨n, wf64 hn, rfl⟩
theorem j8w : ∀ (l : List FT) (n m : Nat), q3r n l = some m → m ≤ 2500 → ∀ f ∈ l, q2b f.dflt ≤ 61
 | [], n, m, e, h => by simp
 | f :: fs, n, m, e, h => by
   have hs := j3o (f :: fs) n m e h
   rw [q3r] at e
   split at e
   · split at e
     · simp at e
     · have h3 := j8w fs _ m e h
       have h4 := (j3o fs _ m e h).1
       intro g hg
       rcases List.mem_cons.1 hg with rfl | hg
       · have := z01 0 g.dflt (by omega)
         omega
       · exact h3 g hg
   · obtain rfl := Option.some.inj e
     omega
theorem j9q : ∀ (l : List NT) (n : Nat), q46 n l ≤ 2500 → ∀ x ∈ l, ∀ f ∈ x.fields, q2b f.dflt ≤ 61
 | [], n, h => by simp
 | x :: xs, n, h => by
   rw [q46] at h
   split at h
   · split at h
     · omega
     · split at h
       · omega
       · rename_i m hm
         have h3 := j6c xs m h
         intro y hy
         rcases List.mem_cons.1 hy with rfl | hy
         · exact j8w _ _ m hm (by omega)
         · exact j9q xs m h y hy
   · omega
theorem z5s {s : ST} (h : q6d s ≤ 2500) : ∀ x ∈ s.nodes, ∀ f ∈ x.fields, q2b f.dflt ≤ 1000 := by
 unfold q6d at h
 split at h
 · omega
 · intro x hx f hf
   have := j9q _ _ h x hx f hf
   omega

def Slow (f : Enc) : Prop := ∀ c, (f c).2 ≤ c + (f c).1.length
theorem j4g : ∀ {fs : List Enc}, (∀ f ∈ fs, Slow f) → Slow (seqF fs)
 | [], _, c => by rw [seqF]; exact Nat.le_refl _
 | f :: fs, h, c => by
   have h1 := h f (by simp) c
   have h2 := j4g (fs := fs) (fun g hg => h g (by simp [hg])) (f c).2
   rw [seqF]
   simp only [List.length_append]
   omega
theorem z1s (n : Int) : 1 ≤ (vput n).length := by
 rw [vput, vint]
 split <;> simp
theorem headB_pos (n : Nat) (sized : Bool) (m : Nat) : 1 ≤ (q5t n sized m).length := by
 have a := z1s (-(n : Int))
 have c := z1s (n : Int)
 unfold q5t
 split
 · rw [List.length_append]; omega
 · omega
theorem cutM_slow (cuts : List Int) (c l : Nat) : (cutM cuts c l).2.2 ≤ c + 1 := by
 unfold cutM
 split
 · exact Nat.le_succ _
 · exact Nat.le_refl _
theorem j4z (cuts : List Int) : ∀ (k : Nat) {fs : List Enc}, (∀ f ∈ fs, Slow f) → Slow (blkF cuts k fs)
 | 0, _, _, c => Nat.le_add_right _ _
 | k + 1, [], _, c => Nat.le_add_right _ _
 | k + 1, f :: fs, h, c => by
   rw [blkF]
   simp only [List.length_append]
   have h1 := cutM_slow cuts c (fs.length + 1)
   have h2 := j4g (fs := (f :: fs).take (cutM cuts c (fs.length + 1)).1) (fun g hg => h g (List.mem_of_mem_take hg)) (cutM cuts c (fs.length + 1)).2.2
   have h3 := j4z cuts k (fs := (f :: fs).drop (cutM cuts c (fs.length + 1)).1) (fun g hg => h g (List.mem_of_mem_drop hg)) (seqF ((f :: fs).take (cutM cuts c (fs.length + 1)).1) (cutM cuts c (fs.length + 1)).2.2).2
   have h4 := headB_pos (cutM cuts c (fs.length + 1)).1 (cutM cuts c (fs.length + 1)).2.1 (seqF ((f :: fs).take (cutM cuts c (fs.length + 1)).1) (cutM cuts c (fs.length + 1)).2.2).1.length
   omega
mutual
theorem encM_slow (ns : List NT) (cuts : List Int) : ∀ (v : VT) (a : Int), Slow (encM ns cuts a v)
 | .mk k n b t xs ks, a, c => by
   have h := j8s ns cuts xs
   rw [encM]
   split
   · exact Nat.le_add_right _ _
   · split
     · exact j4g (h _) c
     · split
       · exact j4z cuts _ (h _) c
       · split
         · refine j4z cuts _ (fun f hf => ?_) c
           obtain ⟨i, hi⟩ := List.getElem?_of_mem hf
           rw [List.getElem?_zipWith] at hi
           split at hi
           · obtain rfl := Option.some.inj hi
             rename_i y g hy hg
             intro c
             have := h _ g (List.mem_of_getElem? hg) c
             rw [keyF]
             simp only [List.length_append]
             omega
           · simp at hi
         · split
           · rename_i nd _ _ _ _ _
             have := j4g (fs := q1a ns cuts (fun _ => q2x nd n) xs) (h _) c
             simp only [List.length_append]
             omega
           · exact Nat.le_add_right _ _
theorem j8s (ns : List NT) (cuts : List Int) : ∀ (xs : List VT) (f : Nat → Int), ∀ e ∈ q1a ns cuts f xs, Slow e
 | [], f => by rw [q1a]; simp
 | x :: xs, f => by
   rw [q1a]
   intro e he
   rcases List.mem_cons.1 he with rfl | he
   · exact encM_slow ns cuts x _
   · exact j8s ns cuts xs _ e he
end

theorem ssm_le' {s : ST} (h : s.sm 2500) : s.sm 1000000 := by
 obtain ⟨h1, h2⟩ := h
 refine ⟨by omega, fun n hn => ?_⟩
 obtain ⟨a1, a2, ⟨a3, a4⟩, ⟨a5, a6⟩, a7, a8, a9⟩ := h2 n hn
 refine ⟨by omega, by omega, ⟨by omega, fun y hy => by have := a4 y hy; omega⟩, ⟨by omega, fun y hy => by have := a6 y hy; omega⟩, by omega, by omega, fun f hf => ?_⟩
 obtain ⟨b1, b2, b3, b4⟩ := a9 f hf
 exact ⟨by omega, by omega, fun y hy => by have := b3 y hy; omega, sm_le (by omega) _ b4⟩
theorem j92 {s : ST} (h : q38 s = true) : ∀ n ∈ s.nodes, n.kind = 9 → ∀ f ∈ n.fields, 0 ≤ f.type ∧ f.type < (s.nodes.length : Int) := fun n hn h9 f hf =>
 q8d h n hn f.type (by rw [q1e, if_pos h9]; exact List.mem_map.2 ⟨f, hf, rfl⟩)
theorem j6f {s : ST} (h : q38 s = true) : ∀ p, ∀ x ∈ q1t s.nodes p, x.type.toNat < s.nodes.length := fun p x hx => by
 unfold q1t at hx
 split at hx
 · rename_i n hn
   split at hx
   · rename_i h9
     have := j92 h n (List.mem_of_getElem? hn) h9 x hx
     omega
   · simp at hx
 · simp at hx

theorem z22 {s : ST} {a : Int} {v : VT} (h : conM s a v (q1s s) = true) : 0 ≤ a ∧ a < (s.nodes.length : Int) ∧ q1s s = true ∧ isM s.nodes a v = true := by
 unfold conM at h
 simpa only [Bool.and_eq_true, decide_eq_true_eq] using h
theorem conM_of {s : ST} {a : Int} {v : VT} (h1 : 0 ≤ a) (h2 : a < (s.nodes.length : Int)) (h3 : q1s s = true) (h4 : isM s.nodes a v = true) : conM s a v (q1s s) = true := by
 unfold conM
 rw [h3, h4]
 simp [h1, h2]
end
end Go.Proofs.YtepneflbhpidbaaGreatDoor
