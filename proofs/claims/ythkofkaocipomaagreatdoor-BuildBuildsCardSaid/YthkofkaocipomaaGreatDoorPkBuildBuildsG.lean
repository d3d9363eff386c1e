/- Texts that lead to the law BuildBuilds, joined. -/
import Derived.Test.YthkofkaocipomaaGreatDoorPkBuildBuildsXEz
import Derived.Test.YthkofkaocipomaaGreatDoorPkBuildBuildsA
import Derived.Test.YthkofkaocipomaaGreatDoorPkBuildBuildsB
import Derived.Test.YthkofkaocipomaaGreatDoorPkBuildBuildsF
import Derived.Test.YthkofkaocipomaaGreatDoorPkBuildBuildsD
import Derived.Test.YthkofkaocipomaaGreatDoorPkBuildBuildsXAbB
import Derived.ProofKit
import Derived.OpenShut
import Derived.ChangeOld
import Derived.Below
import Derived.Test.YthkofkaocipomaaGreatDoorRows
import Derived.MakeChecks
import Derived.LaidMore
namespace Go.Proofs.YthkofkaocipomaaGreatDoor
set_option maxRecDepth 100000
set_option maxHeartbeats 6400000
open Go.RowKit
set_option linter.unusedVariables false
set_option linter.unusedSimpArgs false

def w12J : JT := objJ [(q0k, q89 [114, 101, 99, 111, 114, 100]), (q0x, q89 [114]), (q1d, q89 [110]), (q0q, listJ [objJ [(q0x, q89 [102]), (q0k, listJ [q89 [110, 117, 108, 108], q89 [114]])]])]
theorem w12_right : jR w12J = true := by
 rw [j3f]
 decide +kernel
theorem w12_sm : w12J.sm 4294967296 := by
 simp [w12J, objJ, listJ, q89, JT.sm, JT.smL, q0k, q0x, q1d, q0q]
def w12B : List UInt8 := [123, 34, 116, 121, 112, 101, 34, 58, 34, 114, 101, 99, 111, 114, 100, 34, 44, 34, 110, 97, 109, 101, 34, 58, 34, 114, 34, 44, 34, 110, 97, 109, 101, 115, 112, 97, 99, 101, 34, 58, 34, 110, 34, 44,
 34, 102, 105, 101, 108, 100, 115, 34, 58, 91, 123, 34, 110, 97, 109, 101, 34, 58, 34, 102, 34, 44, 34, 116, 121, 112, 101, 34, 58, 91, 34, 110, 117, 108, 108, 34, 44, 34, 114, 34, 93, 125, 93, 125]
def nP : PV := .v (.slice none 0 0)
def txP (l : List UInt8) : List PV := [.v (.int .i64 4), .v (.int .i64 0), .v (.string ⟨l.toArray⟩), nP, nP]
def lsP (l : List (List PV)) : List PV := [.v (.int .i64 5), .v (.int .i64 0), .v (.string ⟨#[]⟩), .sl 5 l, nP]
def obP (k : List (List UInt8)) (l : List (List PV)) : List PV := [.v (.int .i64 6), .v (.int .i64 0), .v (.string ⟨#[]⟩), .sl 5 l, .sl 1 (k.map fun x => [.v (.string ⟨x.toArray⟩)])]
def w12P : List PV := obP [q0k, q0x, q1d, q0q] [txP [114, 101, 99, 111, 114, 100], txP [114], txP [110], lsP [obP [q0x, q0k] [txP [102], lsP [txP [110, 117, 108, 108], txP [114]]]]]
def isOi (l : List Nat) : FuncId → Bool := fun f => Nat.beq f 155 || Nat.beq f 139 || l.any (Nat.beq f)
def orci (l : List (FuncId × List AV × AV)) : FuncId → List AV → Option AV := fun f a => match Nat.beq f 155, Nat.beq f 139, a with
 | true, _, [.c (.v (.string s)), .c (.v (.int .u8 b))] => some (.c (.v (.int .i64 (Lib.indexByte s.data.toList b.toNat.toUInt8))))
 | _, true, [.c (.v (.string s)), .c (.v (.string t))] => match Ex.sEq t ⟨#[46]⟩ with | true => some (.c (.v (.int .i64 (Lib.indexByte s.data.toList 46)))) | false => none
 | _, _, _ => Ex.orcL l f a
theorem orci_ok {l : List (FuncId × List AV × AV)} (hl : ∀ p ∈ l, ToldM Tryz.prog p.1 p.2.1 [] [] p.2.2) : ∀ f args y, orci l f args = some y → ToldM Tryz.prog f args [] [] y := by
 intro f args y h
 unfold orci at h
 split at h
 · rename_i h1
   rw [Nat.beq_eq] at h1
   subst h1
   obtain rfl := Option.some.inj h
   exact (z0m _ _).m rfl rfl
 · rename_i h1
   rw [Nat.beq_eq] at h1
   subst h1
   split at h
   · rename_i h2
     obtain rfl := Option.some.inj h
     rw [Ex.sEq_ok h2]
     have h3 : ∀ s : ByteArray, ToldM Tryz.prog 139 [.c (.v (.string s)), .c (.v (.string ⟨#[46]⟩))] [] [] (.c (.v (.int .i64 (Lib.indexByte s.data.toList 46)))) := fun s => by
      have := z0n s.data.toList
      rw [str_of] at this
      exact this.m rfl rfl
     exact h3 _
   · simp at h
 · exact Ex.orcL_ok hl h
def envi (P : Program) (fz : List Nat) (l : List (FuncId × List AV × AV)) : Ex.Env := Ex.env P (isOi (l.map (·.1))) (fun f => fz.any (Nat.beq f)) (orci l)
theorem run_i {fz : List Nat} {l : List (FuncId × List AV × AV)} (hl : ∀ p ∈ l, ToldM Tryz.prog p.1 p.2.1 [] [] p.2.2) {n : Nat} {f : FuncId} {args : List AV} {y : AV} (h : Ex.runF (envi Tryz.prog fz l) (Ex.ex (envi Tryz.prog fz l) n) f args [] = .ok ([], y)) : ToldM Tryz.prog f args [] [] y :=
 Ex.run_told (Ex.env_ok mixP (orci_ok hl)) h
theorem w12_parse : ToldM Tryz.prog 33 [.c (.sl 1 (q0o w12B))] [] [] (.tup [.agg (w12P.map .c), .c (.v (.int .i64 0))]) :=
 run_i (fz := [33]) (l := []) (by simp) (n := 3000) (by kernel_rfl)
theorem w12_r : ToldM Tryz.prog 34 [w12J.av] [] [] (.c (.v (.bool true))) := by
 have := z0p w12J w12_sm
 rw [w12_right] at this
 exact this.m (by simp [JT.av_eq, AV.pureL, AV.pureB, q20]) rfl

theorem w12_all : ToldM Tryz.prog 12 [] [] [] (.c (.v (.bool true))) :=
 run_i (fz := []) (l := [(33, [.c (.sl 1 (q0o w12B))], .tup [.agg (w12P.map .c), .c (.v (.int .i64 0))]), (34, [w12J.av], .c (.v (.bool true)))])
  (fun p hp => by
   simp only [List.mem_cons, List.not_mem_nil, or_false] at hp
   rcases hp with rfl | rfl
   · exact w12_parse
   · exact w12_r) (n := 3000) (by kernel_rfl)
theorem z7w : Told Tryz.prog 12 [] (.c (.v (.bool true))) := w12_all.told rfl rfl
section
attribute [local go_sem] opx opE ev okx q5a bnd okO AV.get AV.okb cAV q8a q83 q82 j1w q60 q8z q8y st q8h q50 q8j q8k q8i binV binI binS q4s q5j q5b q5k unV q5w q4a q3m q00 q2d Blkd.len setE grown q1r q4x q3n q26 pv q41 q3t q4o AV.cellish AV.pureL AV.pureB q8w q8m AV.ren AV.renL q85 Blkd.ren rho wrM renN q2w rhoE q4m q4t q75 q78 j1b j1e j1i j1n j1q q7i q9a q9f q9g q9l q9p q9r q9s q9t q9y q93 q98 q76 q77 j0e q7h j0j j0k j0m j0n j08 j09 j1a j1c j1d j1f j1g j1h j1j j1k j1l j1m j1o j1p j1r j1s j1t j1u j1v q9b q9c q9d q9e q9h q9i q9j q9k q9m q9n q9o q9q q9u q9v q9w q9x q9z q90 q91 q92 q94 q95 q96 q97 q99 j0a j0b j0c j0d j0f j0g j0h j0i j0l j0o j0p j0q j0r j0s j0t j0u j0v j0w j0x j0y j0z j00 j01 j02 j03 j04 j05 j06 j07 Option.map_some Option.map_none Option.getD_some Option.getD_none Option.bind_some Option.bind_none List.getElem?_cons_zero List.getElem?_cons_succ List.getElem?_nil List.getElem?_toArray List.length_cons List.length_nil List.length_map List.forall_mem_map List.map_cons List.map_nil List.drop_zero List.drop_succ_cons List.drop_nil List.take_zero List.take_succ_cons List.take_nil List.mem_cons List.not_mem_nil or_false forall_eq_or_imp forall_eq List.set_cons_zero List.set_cons_succ List.cons_append List.nil_append List.append_nil List.foldl_cons List.foldl_nil List.replicate_succ List.replicate_zero List.all_cons List.all_nil if_true if_false Bool.false_eq_true ne_eq not_false_eq_true not_true_eq_false true_and and_true and_self true_implies imp_self implies_true forall_const beq_self_eq_true Bool.and_true Bool.true_and Bool.and_false Bool.false_and Bool.or_true Bool.true_or Bool.or_false Bool.false_or Bool.not_true Bool.not_false Bool.not_eq_eq_eq_not q55 Value.oneCell' Int.toNat_natCast beq_true beq_false Bool.not_eq_true false_implies false_or true_or or_true Nat.zero_add Nat.add_zero decide_true decide_false Int.cast_ofNat_Int Int.toNat_zero Int.toNat_one eq_self

def q35 : Nat → List (List UInt8) → Option Nat
 | n, [] => some n
 | n, y :: ys => if n ≤ 2000 then (if 2000 < y.length then none else q35 (n + 1 + y.length) ys) else some n
mutual
def q3q (d : Nat) : JT → Nat
 | .mk k n s ks xs => if 60 < d ∨ 2000 < s.length ∨ 2000 < ks.length ∨ 2000 < xs.length then 2001 else match q35 (1 + s.length) ks with | none => 2001 | some n => q3s d n xs
def q3s (d : Nat) : Nat → List JT → Nat
 | n, [] => n
 | n, x :: xs => if n ≤ 2000 then q3s d (n + q3q (d + 1) x) xs else n
end
theorem j9b : ∀ (ys : List (List UInt8)) (n m : Nat), n ≤ 4001 → q35 n ys = some m → m ≤ 4001
 | [], n, m, h, e => by simp [q35] at e; omega
 | y :: ys, n, m, h, e => by
   rw [q35] at e
   split at e
   · split at e
     · simp at e
     · exact j9b ys _ m (by omega) e
   · simp at e; omega
mutual
theorem j75 (d : Nat) : ∀ (t : JT), q3q d t ≤ 4001 + 2001 * (61 - d)
 | .mk k n s ks xs => by
   rw [q3q]
   split
   · omega
   · rename_i h
     split
     · omega
     · rename_i m hm
       exact j35 d xs m (by have := j9b ks _ _ (by omega) hm; omega)
theorem j35 (d : Nat) : ∀ (xs : List JT) (n : Nat), n ≤ 4001 + 2001 * (61 - d) → q3s d n xs ≤ 4001 + 2001 * (61 - d)
 | [], n, h => by rw [q3s]; exact h
 | x :: xs, n, h => by
   rw [q3s]
   split
   · have := j75 (d + 1) x
     by_cases hd : 60 < d
     · have h2 : q3q (d + 1) x = 2001 := by
        cases x
        rw [q3q, if_pos (by omega)]
       exact j35 d xs _ (by omega)
     · exact j35 d xs _ (by omega)
   · exact h
end
theorem j34 (d : Nat) : ∀ (xs : List JT) (n : Nat), n ≤ q3s d n xs
 | [], n => by rw [q3s]; exact Nat.le_refl _
 | x :: xs, n => by
   rw [q3s]
   split
   · exact Nat.le_trans (Nat.le_add_right _ _) (j34 d xs _)
   · exact Nat.le_refl _
mutual
theorem z2z (d : Nat) : ∀ (t : JT), q3q d t ≤ 2000 → q1y t + d ≤ 61
 | .mk k n s ks xs => fun h => by
   rw [q3q] at h
   split at h
   · omega
   · rename_i hd
     split at h
     · omega
     · rw [q1y]
       split
       · exact j87 d xs _ 1 (by omega) h
       · omega
theorem j87 (d : Nat) : ∀ (xs : List JT) (n m : Nat), m + d ≤ 61 → q3s d n xs ≤ 2000 → q23 m xs + d ≤ 61
 | [], n, m, hm, h => by rw [q23]; exact hm
 | x :: xs, n, m, hm, h => by
   rw [q3s] at h
   split at h
   · have h1 := j34 d xs (n + q3q (d + 1) x)
     have h2 := z2z (d + 1) x (by omega)
     rw [q23]
     exact j87 d xs _ _ (by omega) h
   · omega
end
theorem z4i {ks : List (List UInt8)} {i n : Nat} {y : List UInt8} (hy : ks[i]? = some y) (hn : n ≤ 2000) (hl : y.length ≤ 2000) : q35 n (ks.drop i) = q35 (n + 1 + y.length) (ks.drop (i + 1)) := by
 obtain ⟨hlt, rfl⟩ := List.getElem?_eq_some_iff.1 hy
 rw [List.drop_eq_getElem_cons hlt, q35, if_pos hn, if_neg (by omega)]
theorem z4h {ks : List (List UInt8)} {i n : Nat} {y : List UInt8} (hy : ks[i]? = some y) (hn : n ≤ 2000) (hl : 2000 < y.length) : q35 n (ks.drop i) = none := by
 obtain ⟨hlt, rfl⟩ := List.getElem?_eq_some_iff.1 hy
 rw [List.drop_eq_getElem_cons hlt, q35, if_pos hn, if_pos hl]
theorem bkeys_end {ks : List (List UInt8)} {i n : Nat} (h : ¬ (i < ks.length ∧ n ≤ 2000)) : q35 n (ks.drop i) = some n := by
 by_cases hlt : i < ks.length
 · rw [List.drop_eq_getElem_cons hlt, q35, if_neg (by omega)]
 · rw [List.drop_of_length_le (by omega), q35]
theorem z4g {d : Nat} {xs : List JT} {i n : Nat} {x : JT} (hx : xs[i]? = some x) (hn : n ≤ 2000) : q3s d n (xs.drop i) = q3s d (n + q3q (d + 1) x) (xs.drop (i + 1)) := by
 obtain ⟨hlt, rfl⟩ := List.getElem?_eq_some_iff.1 hx
 rw [List.drop_eq_getElem_cons hlt, q3s, if_pos hn]
theorem z4f {d : Nat} {xs : List JT} {i n : Nat} (h : ¬ (i < xs.length ∧ n ≤ 2000)) : q3s d n (xs.drop i) = n := by
 by_cases hlt : i < xs.length
 · rw [List.drop_eq_getElem_cons hlt, q3s, if_neg (by omega)]
 · rw [List.drop_of_length_le (by omega), q3s]
theorem bulk_told : ∀ (m : Nat) (t : JT), SizeOf.sizeOf t ≤ m → ∀ (d : Nat) (z : Int), d ≤ 61 → z = (d : Int) → Told Tryz.prog 32 [t.av, .c (.v (.int .i64 2000)), .c (.v (.int .i64 z))] (.c (.v (.int .i64 (q3q d t)))) := by
 intro m
 induction m with
 | zero => intro t ht; cases t; simp at ht
 | succ m ih =>
 intro t ht d z hd hz
 cases t with
 | mk k n s ks xs =>
 have hbl := j75 d (.mk k n s ks xs)
 have hbi := j35 d xs
 refine VC.told ent_32 Tryz.func32 rfl Tryz.ntmps32 (by simp) rfl rfl fun hb => ?_
 simp only [JT.av, q0t, List.map_cons, List.map_nil, q8f, q47, q81, q5d, List.mem_cons, List.not_mem_nil, or_false, forall_eq_or_imp, forall_eq, true_and, List.length_map] at hb ⊢
 clear hb
 have hw21 : IntKind.i64.wrap (2000 + 1) = 2001 := by rfl
 rw [q3q] at hbl ⊢
 refine q0d (@q2l) ?_
 refine VC.cond (by rfl) (by trivial) (fun hc => ?_) (fun hc => ?_)
 · have hcc : 60 < d ∨ 2000 < s.length ∨ 2000 < ks.length ∨ 2000 < xs.length := by
    simp at hc
    omega
   rw [if_pos hcc]
   refine q0d (hw21) ?_
   refine ⟨.inr rfl, ?_⟩
   rw [Tryz.results32]
   simp only [q1x, resV, go_sem, simprocAttr]
   exact .c _
 · have hcc : ¬ (60 < d ∨ 2000 < s.length ∨ 2000 < ks.length ∨ 2000 < xs.length) := by
    simp at hc
    omega
   rw [if_neg hcc] at hbl ⊢
   clear hc
   obtain ⟨V, hV⟩ : ∃ V, V = q35 (1 + s.length) ks := ⟨_, rfl⟩
   rw [← hV] at hbl ⊢
   have hw1 : IntKind.i64.wrap (1 + (s.length : Int)) = 1 + (s.length : Int) := q0w (by omega) (by omega)
   refine q0d (And.intro @q0t (And.intro @q2l hw1)) ?_
   refine VC.loop (ι := {p : Nat × Nat // p.1 ≤ ks.length ∧ p.2 ≤ 4001 ∧ q35 p.2 (ks.drop p.1) = V}) (fun p => [(1, .c (.v (.int .i64 2000))), (2, .c (.v (.int .i64 z))), (3, .ref 0 1 0 0), (7, .c (.v (.int .i64 p.1.2))), (8, .c (.v (.int .i64 p.1.1)))])
    (fun _ => [(0, ⟨false, 25, 5, [(JT.mk k n s ks xs).cells.map .c]⟩)]) 8 (fun p => ks.length - p.1.1) ⟨(0, 1 + s.length), Nat.zero_le _, by simp only []; omega, by simpa using hV.symm⟩ ?_ ?_
   · simp only [q0t, Weak, eq_self, q09, q03, sc_c, q05, q06, q07, q02, q04, ScL, q08, List.forall_mem_map, go_sem, Int.reduceBEq, Int.reduceLE, Int.reduceLT, Int.reduceNeg, Nat.reduceAdd, Nat.reduceEqDiff, Nat.reduceLT, Nat.reduceLeDiff, Nat.reduceMul, Nat.reduceSub, reduceCtorEq, ↓reduceIte]
     all_goals first | rfl | exact cI (by omega)
   rintro ⟨⟨i, b⟩, hi, hb, hbk⟩
   simp only [] at hi hb hbk ⊢
   refine q0d (@q0t) ?_
   refine VC.cond (by rfl) (by trivial) (fun hc => ?_) (fun hc => ?_)
   · have hcc : i < ks.length ∧ b ≤ 2000 := by
      simp at hc
      omega
     clear hc
     obtain ⟨y, hy⟩ : ∃ y, ks[i]? = some y := ⟨ks[i], List.getElem?_eq_getElem hcc.1⟩
     refine q0d (And.intro @q0t (And.intro @q4w (And.intro hy (And.intro @q6a @q2l)))) ?_
     refine VC.cond (by rfl) (by trivial) (fun hc => ?_) (fun hc => ?_)
     · have hl : 2000 < y.length := by
        simp at hc
        omega
       obtain rfl : V = none := hbk.symm.trans (z4h hy hcc.2 hl)
       refine q0d (hw21) ?_
       refine ⟨.inr rfl, ?_⟩
       rw [Tryz.results32]
       simp only [q1x, resV, go_sem, simprocAttr]
       exact .c _
     · have hl : y.length ≤ 2000 := by
        simp at hc
        omega
       have hw2 : IntKind.i64.wrap ((b : Int) + 1) = (b : Int) + 1 := q0w (by omega) (by omega)
       have hw3 : IntKind.i64.wrap ((b : Int) + 1 + (y.length : Int)) = (b : Int) + 1 + (y.length : Int) := q0w (by omega) (by omega)
       have hw4 : IntKind.i64.wrap ((i : Int) + 1) = (i : Int) + 1 := q0w (by omega) (by omega)
       refine q0d (And.intro @q0t (And.intro @q4w (And.intro hy (And.intro @q6a (And.intro @q2l (And.intro hw2 (And.intro hw3 hw4))))))) ?_
       refine .next ⟨(i + 1, b + 1 + y.length), by simp only []; omega, by simp only []; omega, by simp only []; rw [← hbk, z4i hy hcc.2 hl]⟩ ?_ (by simp only []; omega)
       refine q1l (@q0t) ?_
       exact ⟨cI (by omega), cI (by omega)⟩
   · have hcc : ¬ (i < ks.length ∧ b ≤ 2000) := by
      simp at hc
      omega
     clear hc
     obtain rfl : V = some b := hbk.symm.trans (bkeys_end hcc)
     simp only [] at hbl ⊢
     obtain ⟨V, hV2⟩ : ∃ V, V = q3s d b xs := ⟨_, rfl⟩
     rw [← hV2] at hbl ⊢
     refine q0c ?_
     refine VC.loop (ι := {p : Nat × Nat // p.1 ≤ xs.length ∧ p.2 ≤ 4001 + 2001 * (61 - d) ∧ q3s d p.2 (xs.drop p.1) = V}) (fun p => [(1, .c (.v (.int .i64 2000))), (2, .c (.v (.int .i64 z))), (3, .ref 0 1 0 0), (7, .c (.v (.int .i64 p.1.2))), (9, .c (.v (.int .i64 p.1.1)))])
      (fun _ => [(0, ⟨false, 25, 5, [(JT.mk k n s ks xs).cells.map .c]⟩)]) 8 (fun p => xs.length - p.1.1) ⟨(0, b), Nat.zero_le _, by simp only []; omega, by simpa using hV2.symm⟩ ?_ ?_
     · simp only [q0t, Weak, eq_self, q09, q03, sc_c, q05, q06, q07, q02, q04, ScL, q08, List.forall_mem_map, go_sem, Int.reduceBEq, Int.reduceLE, Int.reduceLT, Int.reduceNeg, Nat.reduceAdd, Nat.reduceEqDiff, Nat.reduceLT, Nat.reduceLeDiff, Nat.reduceMul, Nat.reduceSub, reduceCtorEq, ↓reduceIte]
       all_goals rfl
     clear hi hcc hbk
     rintro ⟨⟨i, c⟩, hi, hcb, hbt⟩
     simp only [] at hi hcb hbt ⊢
     refine q0d (@q0t) ?_
     refine VC.cond (by rfl) (by trivial) (fun hc => ?_) (fun hc => ?_)
     · have hcc : i < xs.length ∧ c ≤ 2000 := by
        simp at hc
        omega
       clear hc
       obtain ⟨x, hx⟩ : ∃ x, xs[i]? = some x := ⟨xs[i], List.getElem?_eq_getElem hcc.1⟩
       have hxm := List.mem_of_getElem? hx
       have hsz : SizeOf.sizeOf x ≤ m := by
        have h1 := List.sizeOf_lt_of_mem hxm
        simp at ht
        omega
       have hcall := ih x hsz (d + 1) (z + 1) (by omega) (by omega)
       have hxb := j75 (d + 1) x
       have hw1 : IntKind.i64.wrap (z + 1) = z + 1 := q0w (by omega) (by omega)
       have hw2 : IntKind.i64.wrap ((c : Int) + (q3q (d + 1) x : Int)) = (c : Int) + (q3q (d + 1) x : Int) := q0w (by omega) (by omega)
       have hw4 : IntKind.i64.wrap ((i : Int) + 1) = (i : Int) + 1 := q0w (by omega) (by omega)
       refine q0d (And.intro @q0t (And.intro @q4w (And.intro hx (And.intro @q2n (And.intro @q3a (And.intro @q2t hw1)))))) ?_
       (refine AO.step fun K hK => ?_; simp only [go_sem, Int.reduceBEq, Int.reduceLE, Int.reduceLT, Int.reduceNeg, Nat.reduceAdd, Nat.reduceEqDiff, Nat.reduceLT, Nat.reduceLeDiff, Nat.reduceMul, Nat.reduceSub, reduceCtorEq, ↓reduceIte, q20]; (first | refine q1m ?_ | skip))
       refine .inl ⟨_, hcall, hK _ _ _ ?_⟩
       clear hK K
       refine q0d (And.intro hw2 hw4) ?_
       refine .next ⟨(i + 1, c + q3q (d + 1) x), by simp only []; omega, by simp only []; omega, by simp only []; rw [← hbt, z4g hx hcc.2]⟩ ?_ (by simp only []; omega)
       refine q1l (@q0t) ?_
       exact ⟨cI (by omega), cI (by omega)⟩
     · have hcc : ¬ (i < xs.length ∧ c ≤ 2000) := by
        simp at hc
        omega
       obtain rfl : V = c := hbt.symm.trans (z4f hcc)
       refine q0c ?_
       refine ⟨.inr rfl, ?_⟩
       rw [Tryz.results32]
       simp only [q1x, resV, go_sem, simprocAttr]
       exact .c _
theorem z48 (t : JT) : Told Tryz.prog 11 [t.av] (.c (.v (.bool (decide (2000 < (q3q 0 t : Int)))))) := by
 have hB := bulk_told _ t (Nat.le_refl _) 0 0 (by omega) rfl
 refine VC.told ent_11 Tryz.func11 rfl Tryz.ntmps11 (by simp) (by simp [AV.pureB, AV.pureL, JT.av, q20]) (by rfl) fun hb => ?_
 clear hb
 refine q0d (And.intro @JT.av_eq (And.intro @q2n @q2t)) ?_
 (refine AO.step fun K hK => ?_; simp only [go_sem, Int.reduceBEq, Int.reduceLE, Int.reduceLT, Int.reduceNeg, Nat.reduceAdd, Nat.reduceEqDiff, Nat.reduceLT, Nat.reduceLeDiff, Nat.reduceMul, Nat.reduceSub, reduceCtorEq, ↓reduceIte, JT.av, q2n, q2t, q20]; (first | refine q1m ?_ | skip))
 refine .inl ⟨_, hB, hK _ _ _ ?_⟩
 clear hK K
 refine q0c ?_
 refine ⟨.inr rfl, ?_⟩
 rw [Tryz.results11]
 simp only [q1x, resV, go_sem, simprocAttr]
 exact .c _

/-! A tree that is not great is small. -/
theorem j9c : ∀ (ys : List (List UInt8)) (n m : Nat), q35 n ys = some m → m ≤ 2000 → n + ys.length ≤ m ∧ ∀ y ∈ ys, y.length ≤ 2000
 | [], n, m, h, hm => by rw [q35] at h; obtain rfl := Option.some.inj h; exact ⟨by simp, by simp⟩
 | y :: ys, n, m, h, hm => by
   rw [q35] at h
   split at h
   · split at h
     · simp at h
     · obtain ⟨h1, h2⟩ := j9c ys _ m h hm
       refine ⟨by simp; omega, fun z hz => ?_⟩
       rcases List.mem_cons.1 hz with rfl | hz
       · omega
       · exact h2 z hz
   · obtain rfl := Option.some.inj h
     omega
mutual
theorem bulk_sm (d : Nat) : ∀ t : JT, q3q d t ≤ 2000 → t.sm 2000
 | .mk k n s ks xs => fun h => by
   rw [q3q] at h
   split at h
   · omega
   · rename_i h1
     split at h
     · omega
     · rename_i m hm
       have h2 := j34 d xs m
       obtain ⟨_, h3⟩ := j9c ks _ m hm (by omega)
       exact ⟨by omega, by omega, h3, by omega, j88 d m xs h⟩
theorem j88 (d n : Nat) : ∀ xs : List JT, q3s d n xs ≤ 2000 → JT.smL 2000 xs
 | [] => fun _ => trivial
 | x :: xs => fun h => by
   rw [q3s] at h
   split at h
   · have := j34 d xs (n + q3q (d + 1) x)
     exact ⟨bulk_sm (d + 1) x (by omega), j88 d _ xs h⟩
   · omega
end

theorem z38 (j : JT) : Told Tryz.prog 3 [j.av] (.c (.v (.bool true))) := by
 have hW := z7w
 have hG := z48 j
 by_cases hj : 2000 < q3q 0 j
 · have e2 : decide (2000 < (q3q 0 j : Int)) = true := by simp; omega
   rw [e2] at hG
   rw [JT.av_eq, q0m] at hG ⊢
   generalize j.kd = j1 at *
   generalize j.num = j2 at *
   generalize j.txt = j3 at *
   generalize j.its = j4 at *
   generalize j.keys = j5 at *
   refine VC.toldP ent_3 Tryz.func3 rfl Tryz.ntmps3 fun hb => ?_
   clear hb
   refine q0c ?_
   refine q0e (hG) ?_
   refine q0u ?_
   refine q0e (hW) ?_
   refine q0c ?_
   refine retX Tryz.results3 ?_
   exact .c _
 have e2 : decide (2000 < (q3q 0 j : Int)) = false := by simp; omega
 rw [e2] at hG
 have hsm := sm_le (show (2000 : Nat) ≤ 1000000 by omega) j (bulk_sm 0 j (by omega))
 have hd : q1y j ≤ 1000 := by
  have := z2z 0 j (by omega)
  omega
 have hB := z4t j hsm
 have hRB := z5x j hsm hd
 have hS := z6m (q36 j).1
 generalize (q36 j).1 = s at *
 generalize (q36 j).2 = e at *
 have q1 : (e == e) = true := by simp
 rw [ST.av_eq, q2q] at hB hRB hS
 rw [JT.av_eq, q0m] at hG hB hRB ⊢
 generalize j.kd = j1 at *
 generalize j.num = j2 at *
 generalize j.txt = j3 at *
 generalize j.its = j4 at *
 generalize j.keys = j5 at *
 generalize s.nodes = ns at *
 generalize s.root = r at *
 refine VC.toldP ent_3 Tryz.func3 rfl Tryz.ntmps3 fun hb => ?_
 clear hb
 refine q0c ?_
 refine q0e (hG) ?_
 refine q0u ?_
 refine q0e (hB) ?_
 refine q0c ?_
 refine q0e (hRB) ?_
 refine q0c ?_
 refine q0e (hS) ?_
 refine q0f (q1) ?_
 refine q0e (hW) ?_
 refine q0u ?_
 refine retX Tryz.results3 ?_
 exact .c _
section
open Go.RowKit Go.ChangeShapes Go.WideShapes Go.ChangeAt
inductive TyPV (P : Program) : TypeId → List PV → Prop
 | bool {t : TypeId} {b : Bool} (ht : P.underlying t = some .bool) : TyPV P t [.v (.bool b)]
 | int {t : TypeId} {k : IntKind} {n : Int} (ht : P.underlying t = some (.int k)) (hw : (Lit.int k n).wf = true) : TyPV P t [.v (.int k n)]
 | str {t : TypeId} {s : ByteArray} (ht : P.underlying t = some .string) (hs : s.size ≤ maxLen) : TyPV P t [.v (.string s)]
 | sl {t e : TypeId} {es : List (List PV)} (ht : P.underlying t = some (.slice e)) (hx : ∀ q ∈ es, TyPV P e q) : TyPV P t [.sl (P.cellsOf e) es]
 | struct {t : TypeId} {fs : Array Field} {ps : List PV} (ht : P.underlying t = some (.struct fs)) (hl : ps.length = P.cellsOf t)
   (hx : ∀ (i : Nat) (f : Field), fs[i]? = some f → TyPV P f.type ((ps.drop f.offset).take (P.cellsOf f.type))) : TyPV P t ps
def tiles (P : Program) : List Field → Nat → Nat → Bool
 | [], o, n => o == n
 | f :: fs, o, n => f.offset == o && tiles P fs (o + P.cellsOf f.type) n
def plainB (P : Program) (l : List TypeId) : Bool := l.all fun t => match P.underlying t with
 | some .bool => P.cellsOf t == 1 | some (.int _) => P.cellsOf t == 1 | some .string => P.cellsOf t == 1
 | some (.slice e) => l.contains e && decide (0 < P.cellsOf e) && (P.cellsOf t == 1)
 | some (.struct fs) => tiles P fs.toList 0 (P.cellsOf t) && fs.toList.all fun f => l.contains f.type
 | _ => false
theorem list_of {α : Type} {p : Nat → α → Prop} : ∀ (n : Nat), (∀ i, i < n → ∃ y, p i y) → ∃ l : List α, l.length = n ∧ ∀ (i : Nat) (y : α), l[i]? = some y → p i y
 | 0, _ => ⟨[], rfl, fun i y h => by simp at h⟩
 | n + 1, h => by
   obtain ⟨l, h1, h2⟩ := list_of n fun i hi => h i (by omega)
   obtain ⟨y, hy⟩ := h n (by omega)
   refine ⟨l ++ [y], by simp [h1], fun i z hz => ?_⟩
   by_cases hi : i < l.length
   · rw [List.getElem?_append_left hi] at hz
     exact h2 i z hz
   · rw [List.getElem?_append_right (by omega)] at hz
     cases hj : i - l.length with
     | zero =>
       rw [hj] at hz
       simp at hz
       subst hz
       rw [show i = n by omega]
       exact hy
     | succ j => rw [hj] at hz; simp at hz
section
variable {P : Program} {w : World}
theorem q3z.cons_app {ro : Nat → Prop} {p q : List PV} {v u : List Value} (h : q3z w ro p v) (h' : q3z w ro q u) : q3z w ro (p ++ q) (v ++ u) := by
 refine ⟨by simp [h.1, h'.1], fun j x y h1 h2 => ?_⟩
 by_cases hj : j < p.length
 · rw [List.getElem?_append_left hj] at h1
   rw [List.getElem?_append_left (by rw [h.1]; exact hj)] at h2
   exact h.2 j x y h1 h2
 · rw [List.getElem?_append_right (by omega)] at h1
   rw [List.getElem?_append_right (by rw [h.1]; omega), h.1] at h2
   exact h'.2 _ x y h1 h2
theorem tile_rep {ro : Nat → Prop} {cs : List Value} {n : Nat} (hn : cs.length = n) : ∀ (fs : List Field) (o : Nat), o ≤ n → tiles P fs o n = true →
  (∀ f ∈ fs, ∃ q, q3z w ro q ((cs.drop f.offset).take (P.cellsOf f.type)) ∧ q.length = P.cellsOf f.type ∧ TyPV P f.type q) →
  ∃ ps, q3z w ro ps (cs.drop o) ∧ ps.length = n - o ∧ ∀ (i : Nat) (f : Field), fs[i]? = some f → o ≤ f.offset ∧ TyPV P f.type ((ps.drop (f.offset - o)).take (P.cellsOf f.type)) := by
 intro fs
 induction fs with
 | nil =>
   intro o ho ht _
   simp [tiles] at ht
   subst ht
   exact ⟨[], ⟨by simp [← hn], by simp⟩, by simp, by simp⟩
 | cons f fs ih =>
   intro o ho ht hf
   simp only [tiles, Bool.and_eq_true, beq_iff_eq] at ht
   obtain ⟨h1, h2⟩ := ht
   obtain ⟨q, hq1, hq2, hq3⟩ := hf f (by simp)
   have hle : o + P.cellsOf f.type ≤ n := by
    have := hq1.1
    rw [hq2, List.length_take, List.length_drop, h1, hn] at this
    omega
   obtain ⟨ps, hp1, hp2, hp3⟩ := ih _ hle h2 fun g hg => hf g (by simp [hg])
   have hsp : cs.drop o = (cs.drop o).take (P.cellsOf f.type) ++ cs.drop (o + P.cellsOf f.type) := by
    rw [← List.drop_drop, List.take_append_drop]
   refine ⟨q ++ ps, ?_, by simp [hq2, hp2]; omega, fun i g hg => ?_⟩
   · rw [hsp]
     rw [h1] at hq1
     exact hq1.cons_app hp1
   · cases i with
     | zero =>
       simp at hg
       subst hg
       refine ⟨by omega, ?_⟩
       rw [h1, Nat.sub_self, List.drop_zero, ← hq2, List.take_left]
       exact hq3
     | succ i =>
       simp at hg
       obtain ⟨h3, h4⟩ := hp3 i g hg
       refine ⟨by omega, ?_⟩
       rw [show g.offset - o = q.length + (g.offset - (o + P.cellsOf f.type)) by omega, List.drop_append, List.drop_of_length_le (by omega), List.nil_append, Nat.add_sub_cancel_left]
       exact h4
variable {H : Type} {enc : TypeId × Value → H} {sp : Nat → Bool} {held : Bool}
theorem j69 {W : World} {ro : Nat → Prop} {v : Value} (hv : v.oneCell' = true) : q3z W ro [.v v] [v] := ⟨rfl, fun j p u h1 h2 => by
 cases j with
 | zero => simp at h1 h2; subst h1 h2; exact .v hv
 | succ j => simp at h1⟩
theorem open_pv {l : List TypeId} (hl : plainB P l = true) : ∀ (fuel : Nat) (t : TypeId) (cs : List Value) (x : DataW H × List MemPlace), t ∈ l → DataW.trod enc P w 0 sp held fuel t cs = some x →
  ∃ ps, q3z w (fun b => b < w.heap.size) ps cs ∧ ps.length = P.cellsOf t ∧ TyPV P t ps := by
 intro fuel
 induction fuel using Nat.strongRecOn with
 | ind fuel ih =>
 intro t cs x ht h
 have hk := List.all_eq_true.1 hl t ht
 split at hk
 · rename_i hu
   obtain ⟨b, rfl, _⟩ := DataW.trod_bool hu h
   exact ⟨_, j69 rfl, (by simpa using hk : P.cellsOf t = 1).symm, .bool hu⟩
 · rename_i k hu
   obtain ⟨n, rfl, _, hw⟩ := DataW.trod_int hu h
   exact ⟨_, j69 rfl, (by simpa using hk : P.cellsOf t = 1).symm, .int hu hw⟩
 · rename_i hu
   obtain ⟨s, rfl, _, hs⟩ := DataW.trod_string hu h
   exact ⟨_, j69 rfl, (by simpa using hk : P.cellsOf t = 1).symm, .str hu hs⟩
 · rename_i e hu
   simp only [Bool.and_eq_true, List.contains_iff_mem, decide_eq_true_eq, beq_iff_eq] at hk
   obtain ⟨⟨he, hz⟩, hone⟩ := hk
   rcases DataW.trod_slice hu h with ⟨rfl, _⟩ | ⟨a, len, cap, elems, rest, n, rfl, rfl, _, hb, h1, h2, h3, h4, _, _⟩
   · exact ⟨[.sl (P.cellsOf e) []], ⟨rfl, fun j p u g1 g2 => by
      cases j with
      | zero => simp at g1 g2; subst g1 g2; exact PRep.nil _ _ _
      | succ j => simp at g1⟩, hone.symm, .sl hu (by simp)⟩
   · have hex : ∀ i, i < len → ∃ y : List Value × List PV, w.cells? 0 (a.add (i * P.cellsOf e)) (P.cellsOf e) = some y.1 ∧ q3z w (fun b => b < w.heap.size) y.2 y.1 ∧ y.2.length = P.cellsOf e ∧ TyPV P e y.2 := by
      intro i hi
      have h5 := h4 i hi
      rw [List.getElem?_eq_getElem (show i < elems.length by omega), Option.bind_eq_some_iff] at h5
      obtain ⟨vs, h6, h7⟩ := h5
      obtain ⟨q, h8, h9, h10⟩ := ih n (by omega) e vs _ he h7
      exact ⟨(vs, q), h6, h8, h9, h10⟩
     obtain ⟨L, hL, hLx⟩ := list_of len hex
     have hcell : ∀ (i : Nat) (y : List Value × List PV), L[i]? = some y → y.1.length = P.cellsOf e ∧ ∀ j, j < P.cellsOf e → w.cell? ((a.add (i * P.cellsOf e)).add j) = y.1[j]? := fun i y hy => (World.cells?_some (hLx i y hy).1).2
     have hlen : len = (L.map (·.2)).length := by simp [hL]
     refine ⟨[.sl (P.cellsOf e) (L.map (·.2))], ⟨rfl, fun j p u g1 g2 => ?_⟩, hone.symm, .sl hu fun q hq => ?_⟩
     · cases j with
       | succ j => simp at g1
       | zero =>
       simp at g1 g2
       subst g1 g2
       rw [hlen]
       refine .sl (vss := L.map (·.1)) (by omega) (by unfold maxLen at h2; omega) (fun hn => by simp at hn) (fun hne => ?_) (by simp) (fun i q hq => ?_) (fun i vs hvs => ?_) (fun i j q vs p u hq hvs hp hv => ?_)
       · have hpos : 0 < L.length := List.length_pos_iff.2 (by intro e; apply hne; simp [e])
         obtain ⟨y0, hy0⟩ : ∃ y, L[0]? = some y := ⟨L[0], List.getElem?_eq_getElem hpos⟩
         obtain ⟨c1, c2⟩ := hcell 0 y0 hy0
         have c3 := c2 0 hz
         rw [List.getElem?_eq_getElem (show 0 < y0.1.length by omega)] at c3
         simp only [Nat.zero_mul] at c3
         have hspot := World.cell?_spot c3
         have hlt : a.block < w.heap.size := by
          unfold World.cell? at c3
          have : (a.add 0).add 0 = a := by simp [Addr.add]
          rw [this] at c3
          split at c3
          · rename_i hh
            exact (Array.getElem?_eq_some_iff.1 hh).1
          · simp at c3
         have ha : a = ⟨a.block, a.off, none⟩ := by
          cases a
          simp [Addr.add] at hspot
          simp [hspot]
         refine ⟨a.block, a.off, by rw [← ha], hlt, fun i vs hvs j hj => ?_⟩
         rw [List.getElem?_map] at hvs
         cases hq : L[i]? with
         | none => rw [hq] at hvs; simp at hvs
         | some y =>
           rw [hq] at hvs
           obtain rfl := Option.some.inj hvs
           obtain ⟨d1, d2⟩ := hcell i y hq
           have hj' : j < y.1.length := hj
           rw [← d2 j (by omega), ha, q8g, q8g]
       · rw [List.getElem?_map] at hq
         cases hy : L[i]? with
         | none => rw [hy] at hq; simp at hq
         | some y =>
           rw [hy] at hq
           obtain rfl := Option.some.inj hq
           exact (hLx i y hy).2.2.1
       · rw [List.getElem?_map] at hvs
         cases hy : L[i]? with
         | none => rw [hy] at hvs; simp at hvs
         | some y =>
           rw [hy] at hvs
           obtain rfl := Option.some.inj hvs
           exact (hcell i y hy).1
       · rw [List.getElem?_map] at hq hvs
         cases hy : L[i]? with
         | none => rw [hy] at hq; simp at hq
         | some y =>
           rw [hy] at hq hvs
           obtain rfl := Option.some.inj hq
           obtain rfl := Option.some.inj hvs
           exact (hLx i y hy).2.1.2 j p u hp hv
     · obtain ⟨y, hy, rfl⟩ := List.mem_map.1 hq
       obtain ⟨i, hi⟩ := List.mem_iff_getElem?.1 hy
       exact (hLx i y hi).2.2.2
 · rename_i fs hu
   simp only [Bool.and_eq_true] at hk
   obtain ⟨htl, hin⟩ := hk
   obtain ⟨xs, n, rfl, _, h1, h2, h3⟩ := DataW.trod_struct hu h
   obtain ⟨ps, hp1, hp2, hp3⟩ := tile_rep (P := P) (w := w) (ro := fun b => b < w.heap.size) (cs := cs) h1 fs.toList 0 (Nat.zero_le _) htl fun f hf => by
    obtain ⟨i, hi⟩ := List.mem_iff_getElem?.1 hf
    have hi' : fs[i]? = some f := by simpa using hi
    have hlt := (Array.getElem?_eq_some_iff.1 hi').1
    have h4 := h3 i f hi'
    rw [List.getElem?_eq_getElem (show i < xs.length by omega)] at h4
    have hm : f.type ∈ l := by simpa using List.all_eq_true.1 hin f hf
    obtain ⟨q, h5, h6, h7⟩ := ih n (by omega) f.type _ _ hm h4
    exact ⟨q, h5, h6, h7⟩
   refine ⟨ps, by simpa using hp1, by rw [hp2]; simp, .struct hu (by rw [hp2]; simp) fun i f hf => ?_⟩
   simpa using (hp3 i f (by simpa using hf)).2
 · simp at hk
def TyAV (P : Program) (t : TypeId) (x : AV) : Prop := ∃ ps, TyPV P t ps ∧ (((∃ fs, P.underlying t = some (.struct fs)) ∧ x = .agg (ps.map .c)) ∨ ((∀ fs, P.underlying t ≠ some (.struct fs)) ∧ ∃ q, ps = [q] ∧ x = .c q))
theorem prepL_rep {W : World} {ro : Nat → Prop} {φ : Nat → Value} {h : Nat → Option Blkd} {ps : List PV} {cs : List Value} (hp : q3z W ro ps cs) : Rep W ro φ h (.agg (ps.map .c)) (.agg cs.toArray) := by
 refine .agg (by simp [hp.1]) fun j x v h1 h2 => ?_
 rw [List.getElem?_map] at h1
 cases hq : ps[j]? with
 | none => rw [hq] at h1; simp at h1
 | some p =>
   rw [hq] at h1
   obtain rfl := Option.some.inj h1
   exact .c (hp.2 j p v hq h2)
theorem prepL_one {W : World} {ro : Nat → Prop} {φ : Nat → Value} {h : Nat → Option Blkd} {ps : List PV} {v : Value} (hp : q3z W ro ps [v]) : ∃ q, ps = [q] ∧ Rep W ro φ h (.c q) v := by
 have := hp.1
 match ps, this with
 | [q], _ => exact ⟨q, rfl, .c (hp.2 0 q v rfl rfl)⟩
theorem open_arg {l : List TypeId} (hl : plainB P l = true) {t : TypeId} (ht : t ∈ l) {r : Reach} {base : Nat} {v : Value} {d : DataW H} {p : List MemPlace} (hval : Value.okWide P w r base t v) (h : DataW.Trod enc P w 0 sp held t v d p) :
  ∃ x, TyAV P t x ∧ Rep w (fun b => b < w.heap.size) φ0 h0 x v := by
 obtain ⟨fuel, hf⟩ := h
 obtain ⟨ps, h1, _, h3⟩ := open_pv hl fuel t _ _ ht hf
 have hk := List.all_eq_true.1 hl t ht
 have key : (∀ fs, P.underlying t ≠ some (.struct fs)) → v.cells.toList = [v] → ∃ x, TyAV P t x ∧ Rep w (fun b => b < w.heap.size) φ0 h0 x v := by
  intro hn hc
  rw [hc] at h1
  obtain ⟨q, rfl, hr⟩ := prepL_one (φ := φ0) (h := h0) h1
  exact ⟨_, ⟨_, h3, .inr ⟨hn, q, rfl, rfl⟩⟩, hr⟩
 split at hk
 · rename_i hu
   obtain ⟨b, rfl⟩ := okWide_bool hu hval
   exact key (by simp [hu]) rfl
 · rename_i k hu
   obtain ⟨n, rfl⟩ := okWide_int hu hval
   exact key (by simp [hu]) rfl
 · rename_i hu
   obtain ⟨s, rfl⟩ := okWide_string hu hval
   exact key (by simp [hu]) rfl
 · rename_i e hu
   obtain ⟨a, len, cap, rfl⟩ := okWide_slice hu hval
   exact key (by simp [hu]) rfl
 · rename_i fs hu
   obtain ⟨cs, rfl, _⟩ := okWide_struct hu hval
   exact ⟨_, ⟨_, h3, .inl ⟨⟨fs, hu⟩, rfl⟩⟩, by simpa [Value.cells] using prepL_rep h1⟩
 · simp at hk
theorem reps_nil {W : World} {ro : Nat → Prop} {φ : Nat → Value} {h : Nat → Option Blkd} : ∀ (j : Nat) (x : AV) (v : Value), ([] : List AV)[j]? = some x → ([] : List Value)[j]? = some v → Rep W ro φ h x v := fun j x v h1 => by simp at h1
theorem reps_cons {W : World} {ro : Nat → Prop} {φ : Nat → Value} {h : Nat → Option Blkd} {y : AV} {u : Value} {l : List AV} {vs : List Value} (hy : Rep W ro φ h y u) (hs : ∀ (j : Nat) (x : AV) (v : Value), l[j]? = some x → vs[j]? = some v → Rep W ro φ h x v) :
  ∀ (j : Nat) (x : AV) (v : Value), (y :: l)[j]? = some x → (u :: vs)[j]? = some v → Rep W ro φ h x v := fun j x v h1 h2 => by
 cases j with
 | zero => simp at h1 h2; subst h1 h2; exact hy
 | succ j => exact hs j x v (by simpa using h1) (by simpa using h2)
end
end
section

section
variable {P : Program}
theorem ty_int {t : TypeId} {k : IntKind} {ps : List PV} (h : TyPV P t ps) (hu : P.underlying t = some (.int k)) : ∃ n, ps = [.v (.int k n)] ∧ (Lit.int k n).wf = true := by
 cases h with
 | int ht hw => obtain rfl := TypeDesc.int.inj (Option.some.inj (ht.symm.trans hu)); exact ⟨_, rfl, hw⟩
 | bool ht => simp [ht] at hu
 | str ht hs => simp [ht] at hu
 | sl ht hx => simp [ht] at hu
 | struct ht hl hx => simp [ht] at hu
theorem ty_str {t : TypeId} {ps : List PV} (h : TyPV P t ps) (hu : P.underlying t = some .string) : ∃ s : List UInt8, ps = [.v (.string (str s))] ∧ s.length ≤ maxLen := by
 cases h with
 | @str _ s ht hs => exact ⟨s.data.toList, by rw [str_of], by rw [← q2l, str_of]; exact hs⟩
 | bool ht => simp [ht] at hu
 | int ht hw => simp [ht] at hu
 | sl ht hx => simp [ht] at hu
 | struct ht hl hx => simp [ht] at hu
theorem ty_sl {t e : TypeId} {ps : List PV} (h : TyPV P t ps) (hu : P.underlying t = some (.slice e)) : ∃ es, ps = [.sl (P.cellsOf e) es] ∧ ∀ q ∈ es, TyPV P e q := by
 cases h with
 | sl ht hx => obtain rfl := TypeDesc.slice.inj (Option.some.inj (ht.symm.trans hu)); exact ⟨_, rfl, hx⟩
 | bool ht => simp [ht] at hu
 | int ht hw => simp [ht] at hu
 | str ht hs => simp [ht] at hu
 | struct ht hl hx => simp [ht] at hu
theorem z02 {α β : Type} {f : α → β} : ∀ {l : List β}, (∀ y ∈ l, ∃ x, y = f x) → ∃ m : List α, l = m.map f
 | [], _ => ⟨[], rfl⟩
 | y :: l, h => by
   obtain ⟨x, rfl⟩ := h y (by simp)
   obtain ⟨m, rfl⟩ := z02 (l := l) fun z hz => h z (by simp [hz])
   exact ⟨x :: m, rfl⟩
theorem z03 {α β : Type} {f : α → β} {p : α → Prop} : ∀ {l : List β}, (∀ y ∈ l, ∃ x, p x ∧ y = f x) → ∃ m : List α, (∀ x ∈ m, p x) ∧ l = m.map f
 | [], _ => ⟨[], by simp, rfl⟩
 | y :: l, h => by
   obtain ⟨x, hx, rfl⟩ := h y (by simp)
   obtain ⟨m, hm, rfl⟩ := z03 (l := l) fun z hz => h z (by simp [hz])
   exact ⟨x :: m, fun z hz => by rcases List.mem_cons.1 hz with rfl | hz; exact hx; exact hm z hz, rfl⟩
theorem wf64 {n : Int} (h : (Lit.int .i64 n).wf = true) : -9223372036854775808 ≤ n ∧ n ≤ 9223372036854775807 := by
 simp [Lit.wf, IntKind.min, IntKind.max, IntKind.signed, IntKind.bits] at h
 omega
theorem split5 {α : Type} {l : List α} (h : l.length = 5) : ∃ a b c d e, l = [a, b, c, d, e] := by
 match l, h with
 | [a, b, c, d, e], _ => exact ⟨a, b, c, d, e, rfl⟩
end
theorem fld_of {P : Program} {t : TypeId} {T : TyA} {fs : Array Field} (hT : tyA P t = some T) (hu : P.underlying t = some (.struct fs)) {i o : Nat} {t' : TypeId} (h : T.flds[i]? = some (o, t')) : ∃ f, fs[i]? = some f ∧ f.offset = o ∧ f.type = t' := by
 obtain ⟨d, ii, h1, _, rfl⟩ := q1v hT
 obtain rfl := Option.some.inj (hu.symm.trans h1)
 simp only [j13, List.getElem?_map] at h
 cases hq : fs.toList[i]? with
 | none => rw [hq] at h; simp at h
 | some f =>
   rw [hq] at h
   simp at h
   exact ⟨f, by simpa using hq, h.1, h.2⟩
theorem j11 {P : Program} {t : TypeId} {T : TyA} (hT : tyA P t = some T) : P.cellsOf t = T.size := by
 obtain ⟨d, ii, _, h2, rfl⟩ := q1v hT
 simp [Program.cellsOf, h2]
theorem ty_strs {ps : List PV} (h : TyPV Tryz.prog 23 ps) : ∃ ks : List (List UInt8), ps = [.sl 1 (ks.map sPV)] := by
 obtain ⟨es, rfl, hx⟩ := ty_sl h Tryz.underlying23
 rw [j11 q7i]
 obtain ⟨ks, rfl⟩ := z02 (f := sPV) fun q hq => by
  obtain ⟨s, rfl, _⟩ := ty_str (hx q hq) Tryz.underlying9
  exact ⟨s, rfl⟩
 exact ⟨ks, rfl⟩
theorem ty_fields {P : Program} {t : TypeId} {T : TyA} {ps : List PV} (h : TyPV P t ps) (hT : tyA P t = some T) (hk : T.kind = 3) :
  ps.length = T.size ∧ ∀ (i o : Nat) (t' : TypeId), T.flds[i]? = some (o, t') → ∀ T', tyA P t' = some T' → TyPV P t' ((ps.drop o).take T'.size) := by
 obtain ⟨d, ii, h1, h2, h3⟩ := q1v hT
 obtain ⟨fs, rfl⟩ := j62 (d := d) (by rw [h3] at hk; exact hk)
 cases h with
 | struct ht hlen hx =>
   obtain rfl := TypeDesc.struct.inj (Option.some.inj (ht.symm.trans h1))
   refine ⟨by rw [← j11 hT]; exact hlen, fun i o t' h T' hT' => ?_⟩
   obtain ⟨f, hf, rfl, rfl⟩ := fld_of hT h1 h
   rw [← j11 hT']
   exact hx i f hf
 | bool ht => simp [ht] at h1
 | int ht hw => simp [ht] at h1
 | str ht hs => simp [ht] at h1
 | sl ht hx => simp [ht] at h1
theorem ty_json : ∀ {t : TypeId} {ps : List PV}, TyPV Tryz.prog t ps → (t = 25 → ∃ j : JT, j.inr ∧ ps = j.cells) ∧ (t = 22 → ∃ xs : List JT, JT.inrL xs ∧ ps = [.sl 5 (xs.map JT.cells)]) := by
 intro t ps h
 induction h with
 | bool ht => exact ⟨fun e => by subst e; simp [Tryz.underlying25] at ht, fun e => by subst e; simp [Tryz.underlying22] at ht⟩
 | int ht hw => exact ⟨fun e => by subst e; simp [Tryz.underlying25] at ht, fun e => by subst e; simp [Tryz.underlying22] at ht⟩
 | str ht hs => exact ⟨fun e => by subst e; simp [Tryz.underlying25] at ht, fun e => by subst e; simp [Tryz.underlying22] at ht⟩
 | @sl t e es ht hx ih =>
   refine ⟨fun e => by subst e; simp [Tryz.underlying25] at ht, fun e => ?_⟩
   subst e
   obtain rfl := TypeDesc.slice.inj (Option.some.inj (ht.symm.trans Tryz.underlying22))
   obtain ⟨xs, hxs, rfl⟩ := z03 (f := JT.cells) (p := JT.inr) fun q hq => (ih q hq).1 rfl
   exact ⟨xs, inrL_of hxs, by rw [j11 q7h]⟩
 | @struct t fs ps ht hl hx ih =>
   refine ⟨fun e => ?_, fun e => by subst e; simp [Tryz.underlying22] at ht⟩
   subst e
   have hT := q7h
   obtain ⟨a0, a1, a2, a3, a4, rfl⟩ := split5 (hl.trans (j11 hT))
   obtain ⟨_, hf⟩ := ty_fields (.struct ht hl hx) hT rfl
   obtain ⟨k, h0, _⟩ := ty_int (hf 0 _ _ rfl _ q78) Tryz.underlying3
   obtain ⟨n, h1, hw⟩ := ty_int (hf 1 _ _ rfl _ q75) Tryz.underlying2
   obtain ⟨s, h2, _⟩ := ty_str (hf 2 _ _ rfl _ q7i) Tryz.underlying9
   obtain ⟨ks, h4⟩ := ty_strs (hf 4 _ _ rfl _ q77)
   obtain ⟨f, g1, g2, g3⟩ := fld_of hT ht (i := 3) rfl
   obtain ⟨xs, hxs, h3⟩ := (ih 3 f g1).2 g3
   rw [g2, g3, j11 q76] at h3
   simp at h0 h1 h2 h3 h4
   subst h0 h1 h2 h3 h4
   exact ⟨.mk k n s ks xs, ⟨wf64 hw, hxs⟩, (q0t _ _ _ _ _).symm⟩
theorem arg_json {x : AV} (h : TyAV Tryz.prog 25 x) : ∃ j : JT, j.inr ∧ x = j.av := by
 obtain ⟨ps, h1, h2⟩ := h
 obtain ⟨j, hj, rfl⟩ := (ty_json h1).1 rfl
 rcases h2 with ⟨_, rfl⟩ | ⟨h2, _⟩
 · exact ⟨j, hj, rfl⟩
 · exact absurd Tryz.underlying25 (h2 _)
end
section

theorem gWords : Tryz.prog.globalNamed "avocet/naming.words" = some 1 := by kernel_rfl
theorem tWords : (Tryz.prog.globals[1]?).map (·.type) = some 170 := by kernel_rfl
theorem uWords : Tryz.prog.underlying 170 = some (.array 15 9) := by kernel_rfl
theorem cWords : Tryz.prog.cellsOf 9 = 1 := by kernel_rfl
theorem onlyWords : ((List.range Tryz.prog.globals.size).all fun g => g == 1 || (glob Tryz.prog g).isNone) = true := by kernel_rfl
theorem globWords : glob Tryz.prog 1 = some (q3v.map fun w => PV.v (.string (str w))) := by kernel_rfl
theorem z7v {W : World} (h : laidMetH Tryz.prog [("avocet/naming.words", Rows.laid_avocet_naming_words)] W) :
  ∃ cs : Array Value, (∀ i, W.cell? ⟨1, i, none⟩ = cs[i]?) ∧ cs.size = 15 ∧ ∀ (i : Nat) (w : List UInt8), q3v[i]? = some w → cs[i]? = some (.string (str w)) := by
 rw [MakeChecks.laidMetH_plain _ _ _ (by kernel_rfl)] at h
 obtain ⟨ps, ⟨g0, t0, cs0, f0, p0, q0, hg0, ht0, hv0, hd0, _, _⟩, _, _⟩ := h
 obtain rfl := Option.some.inj (gWords.symm.trans hg0)
 obtain rfl := Option.some.inj (tWords.symm.trans ht0)
 obtain ⟨xs, m1, rfl, hx1, hlen, hn15, hel⟩ := DataW.trod_array uWords hd0
 simp only [Rows.laid_avocet_naming_words, Prod.mk.injEq, DataW.agg.injEq] at hx1
 have hx2 : q3v.map (fun w => (DataW.lit (.string w) : DataW Unit)) = xs.map (·.1) := hx1.1
 have hat : ∀ i, i < 15 → ∃ s : ByteArray, cs0[i]? = some (.string s) ∧ ∃ x, xs[i]? = some x ∧ x.1 = .lit (.string s.data.toList) := by
  intro i hi
  obtain ⟨x, hx⟩ : ∃ x, xs[i]? = some x := ⟨xs[i]'(by omega), List.getElem?_eq_getElem (by omega)⟩
  have h1 := hel i hi
  rw [hx] at h1
  obtain ⟨s, e1, e2, _⟩ := DataW.trod_string Tryz.underlying9 h1
  rw [cWords, Nat.mul_one] at e1
  refine ⟨s, ?_, x, hx, by rw [e2]⟩
  have h2 : (cs0.toList.drop i)[0]? = some (.string s) := by
   have h3 : ((cs0.toList.drop i).take 1)[0]? = some (.string s) := by rw [e1]; rfl
   rwa [List.getElem?_take_of_lt (by decide)] at h3
  rw [List.getElem?_drop, Nat.add_zero] at h2
  simpa using h2
 refine ⟨cs0, fun i => World.var?_cell hg0 hv0 i, ?_, fun i w hw => ?_⟩
 · have := hlen
   rw [show Tryz.prog.cellsOf 170 = 15 by kernel_rfl] at this
   simpa using this
 · have hi : i < 15 := (List.getElem?_eq_some_iff.1 hw).1
   obtain ⟨s, h1, x, h2, h3⟩ := hat i hi
   have h4 : (xs.map (·.1))[i]? = some (.lit (.string w)) := by rw [← hx2, List.getElem?_map, hw]; rfl
   rw [List.getElem?_map, h2] at h4
   have h5 : x.1 = .lit (.string w) := Option.some.inj h4
   rw [h3] at h5
   have h6 : s.data.toList = w := Lit.string.inj (DataW.lit.inj h5)
   have h7 : s = str w := by
    apply ByteArray.ext
    rw [← h6]
    show s.data = s.data.toList.toArray
    exact (Array.toArray_toList).symm
   rw [h1, h7]
theorem gok_words {W : World} (h : laidMetH Tryz.prog [("avocet/naming.words", Rows.laid_avocet_naming_words)] W) : GOk Tryz.prog W (fun k => k < W.heap.size) := by
 obtain ⟨cs, h1, h2, h3⟩ := z7v h
 intro g cells hc
 have hg : g = 1 := by
  by_cases hlt : g < Tryz.prog.globals.size
  · have := List.all_eq_true.1 onlyWords g (List.mem_range.2 hlt)
    rw [hc] at this
    simpa using this
  · unfold glob at hc
    rw [Array.getElem?_eq_none (by omega)] at hc
    simp at hc
 subst hg
 rw [globWords] at hc
 obtain rfl := Option.some.inj hc
 refine ⟨?_, cs.toList, fun j hj => ?_, ⟨by simp [h2, q3v], fun j p v hp hv => ?_⟩⟩
 · have h4 := h1 0
   rw [h3 0 [] rfl] at h4
   by_cases hlt : 1 < W.heap.size
   · exact hlt
   · unfold World.cell? at h4
     simp only [] at h4
     rw [Array.getElem?_eq_none (by omega)] at h4
     simp at h4
 · rw [Nat.zero_add, h1 j]
   simp
 · rw [List.getElem?_map] at hp
   cases hw : q3v[j]? with
   | none => rw [hw] at hp; simp at hp
   | some w =>
     rw [hw] at hp
     obtain rfl := Option.some.inj hp
     have h5 := h3 j w hw
     rw [Array.getElem?_toList] at hv
     rw [h5] at hv
     obtain rfl := Option.some.inj hv
     exact .v rfl
section
variable {P : Program} {w : World}
theorem law_toldG (hg : GOk P w (fun k => k < w.heap.size)) {f : FuncId} {args : List AV} (hT : Told P f args (.c (.v (.bool true)))) {vs : List Value} (hl : vs.length = args.length) (hr : ∀ (j : Nat) (x : AV) (v : Value), args[j]? = some x → vs[j]? = some v → Rep w (fun b => b < w.heap.size) φ0 h0 x v) :
  Calls P f vs.toArray w fun e W' => e = .returned (.bool true) ∧ Below w.heap.size w W' := by
 refine (hT.2 w (fun k => k < w.heap.size) vs (fun _ h => h) hg ⟨hl, hr⟩).mono ?_
 rintro e W' ⟨v, ro', rfl, hb, _, _, hr, _⟩
 obtain rfl := q13 hr
 exact ⟨rfl, hb⟩
end
end
end
end Go.Proofs.YthkofkaocipomaaGreatDoor
