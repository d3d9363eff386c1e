/- Texts that lead to the law BuildBuilds, joined. -/
import Derived.Test.YthkofkaocipomaaGreatDoorPkBuildBuildsE
import Derived.Test.YthkofkaocipomaaGreatDoorPkBuildBuildsA
import Derived.Test.YthkofkaocipomaaGreatDoorPkBuildBuildsD
import Derived.Test.YthkofkaocipomaaGreatDoorPkBuildBuildsXAbB
import Derived.Scope
namespace Go.Proofs.YthkofkaocipomaaGreatDoor
set_option maxRecDepth 100000
set_option maxHeartbeats 6400000
open Go.RowKit
set_option linter.unusedVariables false
set_option linter.unusedSimpArgs false
section
attribute [local go_sem] opx opE ev okx q5a bnd okO AV.get AV.okb cAV q8a q83 q82 j1w q60 q8z q8y st q8h q50 q8j q8k q8i binV binI binS q4s q5j q5b q5k unV q5w q4a q3m q00 q2d Blkd.len setE grown q1r q4x q3n q26 pv q41 q3t q4o AV.cellish AV.pureL AV.pureB q8w q8m AV.ren AV.renL q85 Blkd.ren rho wrM renN q2w rhoE q4m q4t q75 q78 j1b j1e j1i j1n j1q q7i q9a q9f q9g q9l q9p q9r q9s q9t q9y q93 q98 q76 q77 j0e q7h j0j j0k j0m j0n j08 j09 j1a j1c j1d j1f j1g j1h j1j j1k j1l j1m j1o j1p j1r j1s j1t j1u j1v q9b q9c q9d q9e q9h q9i q9j q9k q9m q9n q9o q9q q9u q9v q9w q9x q9z q90 q91 q92 q94 q95 q96 q97 q99 j0a j0b j0c j0d j0f j0g j0h j0i j0l j0o j0p j0q j0r j0s j0t j0u j0v j0w j0x j0y j0z j00 j01 j02 j03 j04 j05 j06 j07 Option.map_some Option.map_none Option.getD_some Option.getD_none Option.bind_some Option.bind_none List.getElem?_cons_zero List.getElem?_cons_succ List.getElem?_nil List.getElem?_toArray List.length_cons List.length_nil List.length_map List.forall_mem_map List.map_cons List.map_nil List.drop_zero List.drop_succ_cons List.drop_nil List.take_zero List.take_succ_cons List.take_nil List.mem_cons List.not_mem_nil or_false forall_eq_or_imp forall_eq List.set_cons_zero List.set_cons_succ List.cons_append List.nil_append List.append_nil List.foldl_cons List.foldl_nil List.replicate_succ List.replicate_zero List.all_cons List.all_nil if_true if_false Bool.false_eq_true ne_eq not_false_eq_true not_true_eq_false true_and and_true and_self true_implies imp_self implies_true forall_const beq_self_eq_true Bool.and_true Bool.true_and Bool.and_false Bool.false_and Bool.or_true Bool.true_or Bool.or_false Bool.false_or Bool.not_true Bool.not_false Bool.not_eq_eq_eq_not q55 Value.oneCell' Int.toNat_natCast beq_true beq_false Bool.not_eq_true false_implies false_or true_or or_true Nat.zero_add Nat.add_zero decide_true decide_false Int.cast_ofNat_Int Int.toNat_zero Int.toNat_one eq_self

def q73 : List Int := [0, 64, 4096, 262144]
def q7v : List Int := [0, 192, 224, 240]
def cvS (l : List UInt8) (n : Nat) : Nat → Int
 | 0 => if n = 1 then (bN l 0 : Int) else if n = 2 then ((bN l 0 : Int) - 192) * 64 else if n = 3 then ((bN l 0 : Int) - 224) * 4096 else ((bN l 0 : Int) - 240) * 262144
 | i + 1 => cvS l n i + ((bN l (i + 1) : Int) - 128) * ((64 ^ (n - 1 - (i + 1)) : Nat) : Int)
theorem cvS_end {l : List UInt8} {n : Nat} (h1 : 1 ≤ n) (h4 : n ≤ 4) : cvS l n (n - 1) = cvN l 0 n := by
 rcases (by omega : n = 1 ∨ n = 2 ∨ n = 3 ∨ n = 4) with rfl | rfl | rfl | rfl <;> simp [cvS, cvN]
theorem cvS_le {l : List UInt8} {n : Nat} (h1 : 1 ≤ n) (h4 : n ≤ 4) : ∀ i, i < n → -100000000 * ((i : Int) + 1) ≤ cvS l n i ∧ cvS l n i ≤ 100000000 * ((i : Int) + 1)
 | 0, _ => by
   have := bN_lt l 0
   unfold cvS
   split
   · omega
   · split
     · omega
     · split <;> omega
 | i + 1, h => by
   obtain ⟨a, b⟩ := cvS_le (l := l) h1 h4 i (by omega)
   have := bN_lt l (i + 1)
   have hp : 64 ^ (n - 1 - (i + 1)) ≤ 4096 := by
    have : n - 1 - (i + 1) ≤ 2 := by omega
    calc 64 ^ (n - 1 - (i + 1)) ≤ 64 ^ 2 := Nat.pow_le_pow_right (by omega) this
     _ = 4096 := rfl
   rw [cvS]
   generalize 64 ^ (n - 1 - (i + 1)) = p at hp ⊢
   have h1 : ((bN l (i + 1) : Int) - 128) * (p : Int) ≤ 128 * 4096 := by
    by_cases hs : (bN l (i + 1) : Int) - 128 ≤ 0
    · have := Int.mul_nonpos_of_nonpos_of_nonneg hs (by omega : (0 : Int) ≤ p)
      omega
    · exact Int.mul_le_mul (by omega) (by omega) (by omega) (by omega)
   have h2 : -(128 * 4096) ≤ ((bN l (i + 1) : Int) - 128) * (p : Int) := by
    have : (128 - (bN l (i + 1) : Int)) * (p : Int) ≤ 128 * 4096 := by
     by_cases hs : 128 - (bN l (i + 1) : Int) ≤ 0
     · have := Int.mul_nonpos_of_nonpos_of_nonneg hs (by omega : (0 : Int) ≤ p)
       omega
     · exact Int.mul_le_mul (by omega) (by omega) (by omega) (by omega)
    have e : (128 - (bN l (i + 1) : Int)) * (p : Int) = -(((bN l (i + 1) : Int) - 128) * (p : Int)) := by rw [← Int.neg_mul]; congr 1; omega
    omega
   have e : ((i + 1 : Nat) : Int) = (i : Int) + 1 := by omega
   rw [e]
   constructor <;> omega
theorem z2j (m : List UInt8) (hbig : m.length ≤ 1000000) : Told Tryz.prog 271 [.c (.sl 1 (q0o m))] (.c (.v (.int .i64 (q3r m 0)))) := by
 have hlen : (q0o m).length = m.length := by simp [q0o]
 obtain ⟨V, hV⟩ : ∃ V, V = q3r m 0 := ⟨_, rfl⟩
 rw [← hV]
 refine VC.toldP ent_271 Tryz.func271 rfl Tryz.ntmps271 fun hb => ?_
 clear hb
 refine j21 ?_
 refine j21 ?_
 refine j21 ?_
 refine VC.frz [8, 24] [(0, .c (.sl 1 (q0o m))), (3, .c (.sl 1 (q73.map iPV))), (4, .c (.sl 1 (q7v.map iPV)))] [] 400 ?_ ?_
 · refine wkfX ?_
   exact ⟨.same _, .row (B := ⟨true, 2, 1, [[.c (.v (.int .i64 0))], [.c (.v (.int .i64 64))], [.c (.v (.int .i64 4096))], [.c (.v (.int .i64 262144))]]⟩) (es := q73.map iPV) (by simp) rfl rfl rfl rfl,
    .row (B := ⟨true, 2, 1, [[.c (.v (.int .i64 0))], [.c (.v (.int .i64 192))], [.c (.v (.int .i64 224))], [.c (.v (.int .i64 240))]]⟩) (es := q7v.map iPV) (by simp) rfl rfl rfl rfl⟩
 refine q0c ?_
 refine VC.loop (ι := {n : Nat // 1 ≤ n ∧ n ≤ 5 ∧ ∀ k, 1 ≤ k → k < n → q25 m 0 k = false}) (fun q => [(0, .c (.sl 1 (q0o m))), (3, .c (.sl 1 (q73.map iPV))), (4, .c (.sl 1 (q7v.map iPV))), (5, .c (.v (.int .i64 (q.1 : Int))))]) (fun _ => []) 800 (fun q => 5 - q.1)
  ⟨1, by omega, by omega, fun k h1 h2 => by omega⟩ ?_ ?_
 · exact q4r
 rintro ⟨n, hn1, hn5, hno⟩
 simp only []
 refine q0d (hlen) ?_
 refine VC.cond (by rfl) (by trivial) (fun hc => ?_) (fun hc => ?_)
 rotate_left
 · have hf : V = -1 := by
    have hend : n = 5 ∨ m.length < n := by
     simp at hc
     omega
    have hall : ∀ k, 1 ≤ k → k ≤ 4 → q25 m 0 k = false := fun k h1 h2 => by
     by_cases hk : k < n
     · exact hno k h1 hk
     · rcases z7y (l := m) (p := 0) (n := k) (by omega) with h | h
       · exact h
       · omega
    rw [hV]
    exact z7z (hall 1 (by omega) (by omega)) (hall 2 (by omega) (by omega)) (hall 3 (by omega) (by omega)) (hall 4 (by omega) (by omega))
   subst hf
   refine q0c ?_
   refine retX Tryz.results271 ?_
   exact .c _
 have hn4 : n ≤ 4 ∧ n ≤ m.length := by
  simp at hc
  omega
 clear hc
 have hp0 := pv_at (l := m) (i := 0) (by omega)
 have hb0 : ((q1t m 0).toNat : Int) = (bN m 0 : Int) := rfl
 have hbl := bN_lt m 0
 rw [hb0] at hp0
 refine q0d (hp0) ?_
 refine VC.meet [(0, .c (.sl 1 (q0o m))), (3, .c (.sl 1 (q73.map iPV))), (4, .c (.sl 1 (q7v.map iPV))), (5, .c (.v (.int .i64 (n : Int)))), (6, .c (.v (.int .i64 (cvS m n 0))))] [] 2000 ?_ ?_
 · have hwb : IntKind.i64.wrap (bN m 0 : Int) = (bN m 0 : Int) := q0w (by omega) (by omega)
   by_cases hn : n = 1
   · subst hn
     have hcv : cvS m 1 0 = (bN m 0 : Int) := by simp [cvS]
     rw [hcv]
     refine q0f (hwb) ?_
     refine .normal ?_
     exact q6e (hwb)
   · obtain ⟨mk, sz, hmk, hsz, hcv, hb1, hb2⟩ : ∃ mk sz : Int, (q7v.map iPV)[n - 1]? = some (iPV mk) ∧ (q73.map iPV)[n - 1]? = some (iPV sz) ∧ cvS m n 0 = ((bN m 0 : Int) - mk) * sz ∧ (0 ≤ mk ∧ mk ≤ 1000) ∧ (-1000000000 ≤ ((bN m 0 : Int) - mk) * sz ∧ ((bN m 0 : Int) - mk) * sz ≤ 1000000000) := by
      rcases (by omega : n = 2 ∨ n = 3 ∨ n = 4) with rfl | rfl | rfl
      · exact ⟨192, 64, rfl, rfl, by simp [cvS], by omega, by omega⟩
      · exact ⟨224, 4096, rfl, rfl, by simp [cvS], by omega, by omega⟩
      · exact ⟨240, 262144, rfl, rfl, by simp [cvS], by omega, by omega⟩
     rw [hcv]
     have hw1 : IntKind.i64.wrap ((n : Int) - 1) = ((n - 1 : Nat) : Int) := by rw [q0w (by omega) (by omega)]; omega
     have hw2 : IntKind.i64.wrap ((bN m 0 : Int) - mk) = (bN m 0 : Int) - mk := q0w (by omega) (by omega)
     have hw3 : IntKind.i64.wrap (((bN m 0 : Int) - mk) * sz) = ((bN m 0 : Int) - mk) * sz := q0w (by omega) (by omega)
     have hml : (q7v.map iPV).length = 4 := rfl
     have hsl : (q73.map iPV).length = 4 := rfl
     refine VC.cond (by rfl) (by trivial) (fun hc4 => ?_) (fun hc4 => ?_)
     rotate_left
     · exact absurd hc4 (by simp; omega)
     refine q0d (And.intro hp0 (And.intro hw1 (And.intro hmk (And.intro hsz (And.intro @q66 (And.intro hwb (And.intro hw2 (And.intro hw3 (And.intro hml hsl))))))))) ?_
     refine .normal ?_
     exact q6e (hw3)
 refine q0c ?_
 refine VC.loop (ι := {i : Nat // 1 ≤ i ∧ i ≤ n}) (fun q => [(0, .c (.sl 1 (q0o m))), (3, .c (.sl 1 (q73.map iPV))), (4, .c (.sl 1 (q7v.map iPV))), (5, .c (.v (.int .i64 (n : Int)))), (6, .c (.v (.int .i64 (cvS m n (q.1 - 1))))), (7, .c (.v (.int .i64 (q.1 : Int))))]) (fun _ => []) 4000 (fun q => n - q.1)
  ⟨1, Nat.le_refl _, hn1⟩ ?_ ?_
 · simp only [Weak, eq_self, q09, q03, sc_c, q05, q06, q07, q02, q04, ScL, q08, List.forall_mem_map, go_sem, Int.reduceBEq, Int.reduceLE, Int.reduceLT, Int.reduceNeg, Nat.reduceAdd, Nat.reduceEqDiff, Nat.reduceLT, Nat.reduceLeDiff, Nat.reduceMul, Nat.reduceSub, reduceCtorEq, ↓reduceIte]
   try simp
 rintro ⟨i, hi1, hin⟩
 simp only []
 refine q0c ?_
 refine VC.cond (by rfl) (by trivial) (fun hc => ?_) (fun hc => ?_)
 · have hlt : i < n := by simp at hc; omega
   have hw : IntKind.i64.wrap ((i : Int) + 1) = (i : Int) + 1 := q0w (by omega) (by omega)
   refine q0d (hw) ?_
   refine VC.loop (ι := {q : Nat × Nat // i + 1 ≤ q.1 ∧ q.1 ≤ n ∧ q.2 = 64 ^ (q.1 - (i + 1))}) (fun q => [(0, .c (.sl 1 (q0o m))), (3, .c (.sl 1 (q73.map iPV))), (4, .c (.sl 1 (q7v.map iPV))), (5, .c (.v (.int .i64 (n : Int)))), (6, .c (.v (.int .i64 (cvS m n (i - 1))))), (7, .c (.v (.int .i64 (i : Int)))), (8, .c (.v (.int .i64 (q.1.2 : Int)))), (9, .c (.v (.int .i64 (q.1.1 : Int))))]) (fun _ => []) 6000 (fun q => n - q.1.1)
    ⟨(i + 1, 1), Nat.le_refl _, hlt, by simp⟩ ?_ ?_
   · simp only [Weak, eq_self, q09, q03, sc_c, q05, q06, q07, q02, q04, ScL, q08, List.forall_mem_map, go_sem, Int.reduceBEq, Int.reduceLE, Int.reduceLT, Int.reduceNeg, Nat.reduceAdd, Nat.reduceEqDiff, Nat.reduceLT, Nat.reduceLeDiff, Nat.reduceMul, Nat.reduceSub, reduceCtorEq, ↓reduceIte]
     try exact cI (by omega)
   rintro ⟨⟨k, p⟩, hk1, hk2, hp⟩
   simp only [] at hk1 hk2 hp ⊢
   have hpl : p ≤ 4096 := by
    rw [hp]
    calc 64 ^ (k - (i + 1)) ≤ 64 ^ 2 := Nat.pow_le_pow_right (by omega) (by omega)
     _ = 4096 := rfl
   refine q0c ?_
   refine VC.cond (by rfl) (by trivial) (fun hc2 => ?_) (fun hc2 => ?_)
   · have hlk : k < n := by simp at hc2; omega
     have hwk : IntKind.i64.wrap ((k : Int) + 1) = (k : Int) + 1 := q0w (by omega) (by omega)
     have hwp : IntKind.i64.wrap ((p : Int) * 64) = (p : Int) * 64 := q0w (by omega) (by omega)
     refine q0d (And.intro hwk hwp) ?_
     refine .next ⟨(k + 1, p * 64), by simp only []; omega, by simp only []; omega, by simp only []; rw [hp, show k + 1 - (i + 1) = (k - (i + 1)) + 1 by omega, Nat.pow_succ]⟩ ?_ (by simp only []; omega)
     refine q4q ?_
     exact ⟨cI (by omega), cI (by omega)⟩
   · have hke : k = n := by simp at hc2; omega
     subst hke
     have hpi := pv_at (l := m) (i := i) (by omega)
     have hbi : ((q1t m i).toNat : Int) = (bN m i : Int) := rfl
     have hbil := bN_lt m i
     rw [hbi] at hpi
     have hwi : IntKind.i64.wrap (bN m i : Int) = (bN m i : Int) := q0w (by omega) (by omega)
     have hw1 : IntKind.i64.wrap ((bN m i : Int) - 128) = (bN m i : Int) - 128 := q0w (by omega) (by omega)
     have hcs : cvS m k i = cvS m k (i - 1) + ((bN m i : Int) - 128) * (p : Int) := by
      obtain ⟨j, rfl⟩ : ∃ j, i = j + 1 := ⟨i - 1, by omega⟩
      rw [cvS, hp, show j + 1 - 1 = j by omega, show k - 1 - (j + 1) = k - (j + 1 + 1) by omega]
     have hbd := cvS_le (l := m) hn1 (by omega) (i - 1) (by omega)
     have hbd2 := cvS_le (l := m) hn1 (by omega) i (by omega)
     rw [hcs] at hbd2
     have hw2 : IntKind.i64.wrap (((bN m i : Int) - 128) * (p : Int)) = ((bN m i : Int) - 128) * (p : Int) := q0w (by omega) (by omega)
     have hw3 : IntKind.i64.wrap (cvS m k (i - 1) + ((bN m i : Int) - 128) * (p : Int)) = cvS m k (i - 1) + ((bN m i : Int) - 128) * (p : Int) := q0w (by omega) (by omega)
     refine q0d (And.intro hpi (And.intro hwi (And.intro hw1 (And.intro hw2 (And.intro hw3 hw))))) ?_
     refine .next ⟨i + 1, by omega, by omega⟩ ?_ (by simp only []; omega)
     refine q1l (hcs) ?_
     refine ⟨?_, cI (by omega)⟩
     rw [show i + 1 - 1 = i by omega, hcs]
 · have hie : i = n := by simp at hc; omega
   subst hie
   rw [cvS_end hn1 hn4.1]
   have hC := z5y (cvN m 0 i)
   by_cases hch : q6l (cvN m 0 i) = true
   rotate_left
   · have hch : q6l (cvN m 0 i) = false := by simpa using hch
     rw [hch] at hC
     have ht : q25 m 0 i = false := by rw [q25, hch]; rfl
     have hw : IntKind.i64.wrap ((i : Int) + 1) = (i : Int) + 1 := q0w (by omega) (by omega)
     refine q0c ?_
     refine q0e (hC) ?_
     refine q0f (hw) ?_
     refine .next ⟨i + 1, by omega, by omega, notest hno ht⟩ ?_ (by simp only []; omega)
     refine q4q ?_
     exact cI (by omega)
   · have hci := q8s.1 hch
     rw [hch] at hC
     obtain ⟨c, hcc⟩ : ∃ c : Nat, cvN m 0 i = (c : Int) := ⟨(cvN m 0 i).toNat, by omega⟩
     have hw : IntKind.i64.wrap ((i : Int) + 1) = (i : Int) + 1 := q0w (by omega) (by omega)
     have ht : q25 m 0 i = (((uenc c).length == i) && (uenc c).isPrefixOf m) := by rw [q25, hch, hcc]; simp
     have hVn := fun h : q25 m 0 i = true => wtest_n (l := m) (p := 0) h
     rw [← hV, hcc] at hVn
     rw [hcc] at hC ⊢
     have hP := j7q c (by omega)
     have hul := z27 c
     have hS := z6p m (uenc c) hbig (by omega)
     have hpl : (q0o (uenc c)).length = (uenc c).length := by simp [q0o]
     obtain ⟨b, hb⟩ : ∃ b, b = (uenc c).isPrefixOf m := ⟨_, rfl⟩
     rw [← hb] at hS ht
     refine q0c ?_
     refine q0e (hC) ?_
     refine q0c ?_
     refine q0e (hP) ?_
     refine q0d (hpl) ?_
     refine q6x (hP) ?_
     refine q0d (hpl) ?_
     refine q6x (hS) ?_
     refine q0c ?_
     refine VC.cond (by rfl) (by trivial) (fun hc3 => ?_) (fun hc3 => ?_)
     · have ht1 : q25 m 0 i = true := by
        rw [ht]
        simp at hc3 ⊢
        exact ⟨by omega, hc3.2⟩
       obtain rfl : V = (c : Int) := hVn ht1
       refine q0c ?_
       refine retX Tryz.results271 ?_
       exact .c _
     · have ht1 : q25 m 0 i = false := by
        rw [ht]
        simp at hc3 ⊢
        intro h1
        exact hc3 (by omega)
       refine q0d (hw) ?_
       refine .next ⟨i + 1, by omega, by omega, notest hno ht1⟩ ?_ (by simp only []; omega)
       refine q4q ?_
       exact cI (by omega)
def begB (m : List UInt8) (j : Nat) : Bool := decide (0 ≤ q3r (m ++ q1f j) 0) && decide (m.length < (uenc (q3r (m ++ q1f j) 0).toNat).length)
theorem z5w (m : List UInt8) (hbig : m.length ≤ 1000) : ∃ b, Told Tryz.prog 272 [.c (.sl 1 (q0o m))] (.c (.v (.bool b))) := by
 have hlen : (q0o m).length = m.length := by simp [q0o]
 by_cases h0 : m.length = 0
 · refine ⟨true, ?_⟩
   have e0 : ((m.length : Int) == 0) = true := by rw [h0]; rfl
   refine VC.toldP ent_272 Tryz.func272 rfl Tryz.ntmps272 fun hb => ?_
   clear hb
   refine q0f (And.intro hlen e0) ?_
   refine retX Tryz.results272 ?_
   exact .c _
 have e0 : ((m.length : Int) == 0) = false := beq_eq_false_iff_ne.2 (by omega)
 obtain ⟨V, hV⟩ : ∃ V, V = (List.range 6).any (begB m) := ⟨_, rfl⟩
 refine ⟨V, ?_⟩
 refine VC.toldP ent_272 Tryz.func272 rfl Tryz.ntmps272 fun hb => ?_
 clear hb
 refine q0f (And.intro hlen e0) ?_
 refine VC.frz [32] [(0, .c (.sl 1 (q0o m))), (3, .row 80 6), (4, .c (.v (.int .i64 0)))] [(40, ⟨true, 5, 1, [[.c (.v (.int .u8 191))], [.c (.v (.int .u8 191))], [.c (.v (.int .u8 191))]]⟩), (48, ⟨true, 5, 1, [[.c (.v (.int .u8 160))], [.c (.v (.int .u8 128))], [.c (.v (.int .u8 128))]]⟩), (56, ⟨true, 5, 1, [[.c (.v (.int .u8 144))], [.c (.v (.int .u8 128))], [.c (.v (.int .u8 128))]]⟩), (64, ⟨true, 5, 1, [[.c (.v (.int .u8 143))], [.c (.v (.int .u8 191))], [.c (.v (.int .u8 191))]]⟩), (72, ⟨true, 5, 1, [[.c (.v (.int .u8 159))], [.c (.v (.int .u8 191))], [.c (.v (.int .u8 191))]]⟩), (80, ⟨true, 50, 1, [[.c (.sl 1 (q0o (q1f 0)))], [.row 40 3], [.row 48 3], [.row 56 3], [.row 64 3], [.row 72 3]]⟩)] 400 ?_ ?_
 · refine wkfX ?_
   exact ⟨⟨.same _, .same _, .same _⟩, .same _, .same _, .same _, .same _, .same _, .set (i := 0) (e' := [.c (.sl 1 (q0o (q1f 0)))]) rfl (.cons (.row (B := ⟨true, 5, 1, [[.c (.v (.int .u8 128))], [.c (.v (.int .u8 128))], [.c (.v (.int .u8 128))]]⟩) (es := q0o (q1f 0)) (by simp) rfl rfl rfl rfl) .nil) (by simp [AV.cellish])⟩
 refine VC.frz [40] [(0, .c (.sl 1 (q0o m))), (3, .row 80 6), (4, .c (.v (.int .i64 0)))] [(48, ⟨true, 5, 1, [[.c (.v (.int .u8 160))], [.c (.v (.int .u8 128))], [.c (.v (.int .u8 128))]]⟩), (56, ⟨true, 5, 1, [[.c (.v (.int .u8 144))], [.c (.v (.int .u8 128))], [.c (.v (.int .u8 128))]]⟩), (64, ⟨true, 5, 1, [[.c (.v (.int .u8 143))], [.c (.v (.int .u8 191))], [.c (.v (.int .u8 191))]]⟩), (72, ⟨true, 5, 1, [[.c (.v (.int .u8 159))], [.c (.v (.int .u8 191))], [.c (.v (.int .u8 191))]]⟩), (80, ⟨true, 50, 1, [[.c (.sl 1 (q0o (q1f 0)))], [.c (.sl 1 (q0o (q1f 1)))], [.row 48 3], [.row 56 3], [.row 64 3], [.row 72 3]]⟩)] 400 ?_ ?_
 · refine wkfX ?_
   exact ⟨⟨.same _, .same _, .same _⟩, .same _, .same _, .same _, .same _, .set (i := 1) (e' := [.c (.sl 1 (q0o (q1f 1)))]) rfl (.cons (.row (B := ⟨true, 5, 1, [[.c (.v (.int .u8 191))], [.c (.v (.int .u8 191))], [.c (.v (.int .u8 191))]]⟩) (es := q0o (q1f 1)) (by simp) rfl rfl rfl rfl) .nil) (by simp [AV.cellish])⟩
 refine VC.frz [48] [(0, .c (.sl 1 (q0o m))), (3, .row 80 6), (4, .c (.v (.int .i64 0)))] [(56, ⟨true, 5, 1, [[.c (.v (.int .u8 144))], [.c (.v (.int .u8 128))], [.c (.v (.int .u8 128))]]⟩), (64, ⟨true, 5, 1, [[.c (.v (.int .u8 143))], [.c (.v (.int .u8 191))], [.c (.v (.int .u8 191))]]⟩), (72, ⟨true, 5, 1, [[.c (.v (.int .u8 159))], [.c (.v (.int .u8 191))], [.c (.v (.int .u8 191))]]⟩), (80, ⟨true, 50, 1, [[.c (.sl 1 (q0o (q1f 0)))], [.c (.sl 1 (q0o (q1f 1)))], [.c (.sl 1 (q0o (q1f 2)))], [.row 56 3], [.row 64 3], [.row 72 3]]⟩)] 400 ?_ ?_
 · refine wkfX ?_
   exact ⟨⟨.same _, .same _, .same _⟩, .same _, .same _, .same _, .set (i := 2) (e' := [.c (.sl 1 (q0o (q1f 2)))]) rfl (.cons (.row (B := ⟨true, 5, 1, [[.c (.v (.int .u8 160))], [.c (.v (.int .u8 128))], [.c (.v (.int .u8 128))]]⟩) (es := q0o (q1f 2)) (by simp) rfl rfl rfl rfl) .nil) (by simp [AV.cellish])⟩
 refine VC.frz [56] [(0, .c (.sl 1 (q0o m))), (3, .row 80 6), (4, .c (.v (.int .i64 0)))] [(64, ⟨true, 5, 1, [[.c (.v (.int .u8 143))], [.c (.v (.int .u8 191))], [.c (.v (.int .u8 191))]]⟩), (72, ⟨true, 5, 1, [[.c (.v (.int .u8 159))], [.c (.v (.int .u8 191))], [.c (.v (.int .u8 191))]]⟩), (80, ⟨true, 50, 1, [[.c (.sl 1 (q0o (q1f 0)))], [.c (.sl 1 (q0o (q1f 1)))], [.c (.sl 1 (q0o (q1f 2)))], [.c (.sl 1 (q0o (q1f 3)))], [.row 64 3], [.row 72 3]]⟩)] 400 ?_ ?_
 · refine wkfX ?_
   exact ⟨⟨.same _, .same _, .same _⟩, .same _, .same _, .set (i := 3) (e' := [.c (.sl 1 (q0o (q1f 3)))]) rfl (.cons (.row (B := ⟨true, 5, 1, [[.c (.v (.int .u8 144))], [.c (.v (.int .u8 128))], [.c (.v (.int .u8 128))]]⟩) (es := q0o (q1f 3)) (by simp) rfl rfl rfl rfl) .nil) (by simp [AV.cellish])⟩
 refine VC.frz [64] [(0, .c (.sl 1 (q0o m))), (3, .row 80 6), (4, .c (.v (.int .i64 0)))] [(72, ⟨true, 5, 1, [[.c (.v (.int .u8 159))], [.c (.v (.int .u8 191))], [.c (.v (.int .u8 191))]]⟩), (80, ⟨true, 50, 1, [[.c (.sl 1 (q0o (q1f 0)))], [.c (.sl 1 (q0o (q1f 1)))], [.c (.sl 1 (q0o (q1f 2)))], [.c (.sl 1 (q0o (q1f 3)))], [.c (.sl 1 (q0o (q1f 4)))], [.row 72 3]]⟩)] 400 ?_ ?_
 · refine wkfX ?_
   exact ⟨⟨.same _, .same _, .same _⟩, .same _, .set (i := 4) (e' := [.c (.sl 1 (q0o (q1f 4)))]) rfl (.cons (.row (B := ⟨true, 5, 1, [[.c (.v (.int .u8 143))], [.c (.v (.int .u8 191))], [.c (.v (.int .u8 191))]]⟩) (es := q0o (q1f 4)) (by simp) rfl rfl rfl rfl) .nil) (by simp [AV.cellish])⟩
 refine VC.frz [72] [(0, .c (.sl 1 (q0o m))), (3, .row 80 6), (4, .c (.v (.int .i64 0)))] [(80, ⟨true, 50, 1, [[.c (.sl 1 (q0o (q1f 0)))], [.c (.sl 1 (q0o (q1f 1)))], [.c (.sl 1 (q0o (q1f 2)))], [.c (.sl 1 (q0o (q1f 3)))], [.c (.sl 1 (q0o (q1f 4)))], [.c (.sl 1 (q0o (q1f 5)))]]⟩)] 400 ?_ ?_
 · refine wkfX ?_
   exact ⟨⟨.same _, .same _, .same _⟩, .set (i := 5) (e' := [.c (.sl 1 (q0o (q1f 5)))]) rfl (.cons (.row (B := ⟨true, 5, 1, [[.c (.v (.int .u8 159))], [.c (.v (.int .u8 191))], [.c (.v (.int .u8 191))]]⟩) (es := q0o (q1f 5)) (by simp) rfl rfl rfl rfl) .nil) (by simp [AV.cellish])⟩
 refine VC.frz [80] [(0, .c (.sl 1 (q0o m))), (3, .c (.sl 1 ((List.range 6).map fun j => [PV.sl 1 (q0o (q1f j))]))), (4, .c (.v (.int .i64 0)))] [] 400 ?_ ?_
 · refine wkfX ?_
   exact ⟨.same _, .row (B := ⟨true, 50, 1, [[.c (.sl 1 (q0o (q1f 0)))], [.c (.sl 1 (q0o (q1f 1)))], [.c (.sl 1 (q0o (q1f 2)))], [.c (.sl 1 (q0o (q1f 3)))], [.c (.sl 1 (q0o (q1f 4)))], [.c (.sl 1 (q0o (q1f 5)))]]⟩) (es := (List.range 6).map fun j => [PV.sl 1 (q0o (q1f j))]) (by simp) rfl rfl rfl rfl, .same _⟩
 have hFx : ∀ i, i < 6 → ((List.range 6).map fun j => [PV.sl 1 (q0o (q1f j))])[i]? = some [PV.sl 1 (q0o (q1f i))] := fun i hlt => by rw [List.getElem?_map, List.getElem?_range hlt]; rfl
 have hrl : ((List.range 6).map fun j => [PV.sl 1 (q0o (q1f j))]).length = 6 := rfl
 generalize ((List.range 6).map fun j => [PV.sl 1 (q0o (q1f j))]) = F at hFx hrl ⊢
 refine VC.loop (ι := {i : Nat // i ≤ 6 ∧ ∀ j, j < i → begB m j = false}) (fun q => [(0, .c (.sl 1 (q0o m))), (3, .c (.sl 1 F)), (4, .c (.v (.int .i64 (q.1 : Int))))]) (fun _ => []) 800 (fun q => 6 - q.1)
  ⟨0, by omega, fun j h => by omega⟩ ?_ ?_
 · exact q4r
 rintro ⟨i, hi, hno⟩
 simp only []
 refine q0d (hrl) ?_
 refine VC.cond (by rfl) (by trivial) (fun hc => ?_) (fun hc => ?_)
 · have hlt : i < 6 := by simp at hc; omega
   have hw : IntKind.i64.wrap ((i : Int) + 1) = (i : Int) + 1 := q0w (by omega) (by omega)
   have hx : F[i]? = some [PV.sl 1 (q0o (q1f i))] := hFx i hlt
   have hfl : (q0o (q1f i)).length = 3 := by simp [q0o, j6g]
   have hW := z2j (m ++ q1f i) (by simp [j6g]; omega)
   have hB : begB m i = (decide (0 ≤ q3r (m ++ q1f i) 0) && decide (m.length < (uenc (q3r (m ++ q1f i) 0).toNat).length)) := rfl
   have hch := fun h : 0 ≤ q3r (m ++ q1f i) 0 => q8s.1 (z3o h).2.1
   obtain ⟨z, hz⟩ : ∃ z, z = q3r (m ++ q1f i) 0 := ⟨_, rfl⟩
   rw [← hz] at hW hB hch
   refine q0d (And.intro hrl (And.intro hx (And.intro hfl (And.intro hlen @q7r)))) ?_
   (refine AO.step fun K hK => ?_; simp only [go_sem, Int.reduceBEq, Int.reduceLE, Int.reduceLT, Int.reduceNeg, Nat.reduceAdd, Nat.reduceEqDiff, Nat.reduceLT, Nat.reduceLeDiff, Nat.reduceMul, Nat.reduceSub, reduceCtorEq, ↓reduceIte]; (first | refine q1m ?_ | skip))
   refine .inr (.inl ⟨.c (.v (.int .i64 z)), [.c (.sl 1 (q0o (m ++ q1f i)))], [832], ⟨by simp [AV.pureL, AV.pureB], rfl, fun k x z h5 h6 => ?_, rfl, hW⟩, hK _ _ _ ?_⟩)
   · match k with
     | 0 =>
       obtain rfl := Option.some.inj h5
       obtain rfl := Option.some.inj h6
       exact View.row (B := ⟨true, 5, 1, (q0o m).map (fun e => e.map AV.c) ++ (q0o (q1f i)).map fun e => e.map AV.c⟩) (es := q0o (m ++ q1f i)) rfl rfl (by simp [Blkd.len, q0o, j6g]) (by simp [q0o])
     | k + 1 => simp at h5
   clear hK K
   by_cases hz0 : 0 ≤ z
   · obtain ⟨c, rfl⟩ : ∃ c : Nat, z = (c : Int) := ⟨z.toNat, by omega⟩
     have hP := j7q c (by have := hch hz0; omega)
     have e1 : decide ((c : Int) ≥ 0) = true := by simp
     have hul : (q0o (uenc c)).length = (uenc c).length := by simp [q0o]
     rw [Int.toNat_natCast] at hB
     refine q0d (e1) ?_
     refine q0e (hP) ?_
     refine q0d (And.intro hul hlen) ?_
     refine VC.cond (by rfl) (by trivial) (fun hc2 => ?_) (fun hc2 => ?_)
     · have hf : V = true := by
        have : begB m i = true := by rw [hB]; simp at hc2 ⊢; omega
        rw [hV, List.any_eq_true]
        exact ⟨i, List.mem_range.2 hlt, this⟩
       subst hf
       refine q0c ?_
       refine retX Tryz.results272 ?_
       exact .c _
     · have : begB m i = false := by rw [hB]; simp at hc2 ⊢; omega
       refine q0d (hw) ?_
       refine .next ⟨i + 1, by omega, fun j hj => ?_⟩ ?_ (by simp only []; omega)
       · by_cases hji : j < i
         · exact hno j hji
         · obtain rfl : j = i := by omega
           exact this
       refine q4q ?_
       exact cI (by omega)
   · have e1 : decide (z ≥ 0) = false := by simp; omega
     have : begB m i = false := by rw [hB]; simp; omega
     refine q0f (And.intro e1 hw) ?_
     refine .next ⟨i + 1, by omega, fun j hj => ?_⟩ ?_ (by simp only []; omega)
     · by_cases hji : j < i
       · exact hno j hji
       · obtain rfl : j = i := by omega
         exact this
     refine q4q ?_
     exact cI (by omega)
 · have hf : V = false := by
    rw [hV, List.any_eq_false]
    intro j hj
    have := List.mem_range.1 hj
    rw [hno j (by simp at hc; omega)]
    simp
   subst hf
   refine q0c ?_
   refine retX Tryz.results272 ?_
   exact .c _
theorem z6q (l : List UInt8) (p : Nat) (hp : p ≤ l.length) (hbig : l.length ≤ 1000000) : ∃ v nx e : Int, Told Tryz.prog 226 [.c (.sl 1 (q0o l)), .c (.v (.int .i64 (p : Int)))] (.tup [.c (.v (.int .i64 v)), .c (.v (.int .i64 nx)), .c (.v (.int .i64 e))]) ∧
  (uerr l p = 0 → e = 0 ∧ nx = (p : Int) + (ulen l p : Int)) ∧ (uerr l p ≠ 0 → e ≠ 0) := by
 have hlen : (q0o l).length = l.length := by simp [q0o]
 have hdr : ((q0o l).take l.length).drop p = q0o (l.drop p) := by rw [← hlen, List.take_length]; simp [q0o, List.map_drop]
 have hW := z2j (l.drop p) (by simp; omega)
 rw [z7u] at hW
 have e1 : decide ((p : Int) < 0) = false := by simp
 have e2 : decide ((p : Int) > (l.length : Int)) = false := by simp; omega
 obtain ⟨z, hz⟩ : ∃ z, z = q3r l p := ⟨_, rfl⟩
 rw [← hz] at hW
 have hdl : (q0o (l.drop p)).length = l.length - p := by simp [q0o]
 by_cases hz0 : 0 ≤ z
 · obtain ⟨u1, u2, u3⟩ := z3o (l := l) (p := p) (by omega)
   have hci := q8s.1 u2
   obtain ⟨c, rfl⟩ : ∃ c : Nat, z = (c : Int) := ⟨z.toNat, by omega⟩
   rw [← hz] at u2 u3 hci
   rw [Int.toNat_natCast] at u3
   have hP := j7q c (by omega)
   have e3 : decide ((c : Int) ≥ 0) = true := by simp
   have hul : (q0o (uenc c)).length = (uenc c).length := by simp [q0o]
   have hlb := z27 c
   have hw : IntKind.i64.wrap ((p : Int) + ((uenc c).length : Int)) = (p : Int) + ((uenc c).length : Int) := q0w (by omega) (by omega)
   refine ⟨(c : Int), (p : Int) + ((uenc c).length : Int), 0, ?_, fun _ => ⟨rfl, by rw [u3]⟩, fun h => absurd u1 h⟩
   refine VC.toldP j4e Tryz.func226 rfl Tryz.ntmps226 fun hb => ?_
   clear hb
   refine q0f (And.intro hlen (And.intro e1 (And.intro e2 hdr))) ?_
   refine q0e (hW) ?_
   refine q0f (e3) ?_
   refine q0e (hP) ?_
   refine q0d (And.intro hul hw) ?_
   refine retX Tryz.results226 ?_
   exact ⟨.c _, .c _, .c _⟩
 · have hu : uerr l p ≠ 0 := by
    intro h
    have hf := j3s h
    have := wtest_n (j4l hf)
    have h2 := (q8s (c := cvN l p (ulen l p))).1 (by
     have ht := j4l hf
     unfold q25 at ht
     simp only [Bool.and_eq_true] at ht
     exact ht.1)
    omega
   have e3 : decide (z ≥ 0) = false := by simp; omega
   have hws : IntKind.i64.wrap ((l.length : Int) - (p : Int)) = (l.length : Int) - (p : Int) := q0w (by omega) (by omega)
   by_cases h4 : l.length - p < 4
   · have e4 : decide ((l.length : Int) - (p : Int) < 4) = true := by simp; omega
     obtain ⟨b, hB⟩ := z5w (l.drop p) (by simp; omega)
     cases b with
     | true =>
       refine ⟨0, (p : Int), 10, ?_, fun h => absurd h hu, fun _ => by decide⟩
       refine VC.toldP j4e Tryz.func226 rfl Tryz.ntmps226 fun hb => ?_
       clear hb
       refine q0f (And.intro hlen (And.intro e1 (And.intro e2 hdr))) ?_
       refine q0e (hW) ?_
       refine q0f (And.intro e3 (And.intro hws (And.intro e4 (And.intro hlen hdr)))) ?_
       refine q0e (hB) ?_
       refine q0u ?_
       refine retX Tryz.results226 ?_
       exact ⟨.c _, .c _, .c _⟩
     | false =>
       refine ⟨0, (p : Int), 11, ?_, fun h => absurd h hu, fun _ => by decide⟩
       refine VC.toldP j4e Tryz.func226 rfl Tryz.ntmps226 fun hb => ?_
       clear hb
       refine q0f (And.intro hlen (And.intro e1 (And.intro e2 hdr))) ?_
       refine q0e (hW) ?_
       refine q0f (And.intro e3 (And.intro hws (And.intro e4 (And.intro hlen hdr)))) ?_
       refine q0e (hB) ?_
       refine q0u ?_
       refine retX Tryz.results226 ?_
       exact ⟨.c _, .c _, .c _⟩
   · have e4 : decide ((l.length : Int) - (p : Int) < 4) = false := by simp; omega
     refine ⟨0, (p : Int), 11, ?_, fun h => absurd h hu, fun _ => by decide⟩
     refine VC.toldP j4e Tryz.func226 rfl Tryz.ntmps226 fun hb => ?_
     clear hb
     refine q0f (And.intro hlen (And.intro e1 (And.intro e2 hdr))) ?_
     refine q0e (hW) ?_
     refine q0f (And.intro e3 (And.intro hws (And.intro e4 hlen))) ?_
     refine retX Tryz.results226 ?_
     exact ⟨.c _, .c _, .c _⟩
theorem z5z (l : List UInt8) (hbig : l.length ≤ 1000000) : ∃ z : Int, Told Tryz.prog 172 [.c (.sl 1 (q0o l))] (.c (.v (.int .i64 z))) ∧ (decide (z ≥ 0) = q3l l) := by
 have hlen : (q0o l).length = l.length := by simp [q0o]
 refine ⟨if (uCnt l 0 0).2 = 0 then ((uCnt l 0 0).1 : Int) else -1, ?_, ?_⟩
 rotate_left
 · unfold q3l
   split
   · simp_all
   · simp_all
 obtain ⟨V, hV⟩ : ∃ V, V = uCnt l 0 0 := ⟨_, rfl⟩
 rw [← hV]
 refine VC.toldP ent_172 Tryz.func172 rfl Tryz.ntmps172 fun hb => ?_
 clear hb
 refine q0c ?_
 refine VC.loop (ι := {q : Nat × Nat // q.1 ≤ l.length ∧ q.2 ≤ q.1 ∧ uCnt l q.1 q.2 = V}) (fun q => [(0, .c (.sl 1 (q0o l))), (3, .c (.v (.int .i64 (q.1.2 : Int)))), (4, .c (.v (.int .i64 (q.1.1 : Int))))]) (fun _ => []) 800 (fun q => l.length - q.1.1)
  ⟨(0, 0), Nat.zero_le _, Nat.le_refl _, hV.symm⟩ ?_ ?_
 · exact q4r
 rintro ⟨⟨p, k⟩, hp, hk, hu⟩
 simp only [] at hp hk hu ⊢
 refine q0d (hlen) ?_
 refine VC.cond (by rfl) (by trivial) (fun hc => ?_) (fun hc => ?_)
 · have hlt : p < l.length := by simp at hc; omega
   obtain ⟨v, nx, e, hT, h1, h2⟩ := z6q l p hp hbig
   by_cases he : uerr l p = 0
   · obtain ⟨rfl, rfl⟩ := h1 he
     have hub := j5p he
     have hw : IntKind.i64.wrap ((k : Int) + 1) = (k : Int) + 1 := q0w (by omega) (by omega)
     rw [z26 hlt he] at hu
     refine q0c ?_
     refine q0e (hT) ?_
     refine q0f (hw) ?_
     refine .next ⟨(p + ulen l p, k + 1), hub.2, by simp only []; omega, hu⟩ ?_ (by simp only []; omega)
     refine q4q ?_
     exact ⟨cI (by omega), cI (by omega)⟩
   · have hne := h2 he
     rw [z24 hlt he] at hu
     subst hu
     have e5 : (e != 0) = true := by simpa using hne
     refine q0c ?_
     refine q0e (hT) ?_
     refine q0f (e5) ?_
     refine retX Tryz.results172 ?_
     exact .c _
 · have hpe : p = l.length := by simp at hc; omega
   rw [z25 (by omega)] at hu
   subst hu
   refine q0c ?_
   refine retX Tryz.results172 ?_
   exact .c _

theorem z2a (s : List UInt8) (hs : s.length ≤ 1000000) : Told Tryz.prog 127 [.c (.v (.string (str s)))] (.c (.v (.bool (q3l s)))) := by
 obtain ⟨Z, hC, hd⟩ := z5z s hs
 have hsz : (str s).size = s.length := q2l s
 have hdl : (str s).data.toList = s := by simp [str]
 refine VC.toldP ent_127 Tryz.func127 rfl Tryz.ntmps127 fun hb => ?_
 clear hb
 refine q0d (And.intro hsz hdl) ?_
 refine q33 (And.intro hsz hdl) (hC) ?_
 refine q0d (hd) ?_
 refine retX Tryz.results127 ?_
 exact .c _

theorem takeN {α : Type} {l : List α} {i : Nat} {x : α} (h : l[i]? = some x) : l.take (i + 1) = l.take i ++ [x] := by
 rw [List.take_add_one, h]
 rfl
theorem j7r : ∀ xs : List JT, q5u xs = xs.all q4y
 | [] => by rw [q5u]; rfl
 | x :: xs => by rw [q5u, j7r xs]; rfl
theorem z6o : ∀ (m : Nat) (t : JT), SizeOf.sizeOf t ≤ m → t.sm 1000000 → Told Tryz.prog 74 [t.av] (.c (.v (.bool (q4y t)))) := by
 intro m
 induction m with
 | zero =>
   intro t ht
   cases t
   simp at ht
 | succ m ih =>
 intro t ht hsm
 cases t with
 | mk k n s ks xs =>
 have hx : ∀ x ∈ xs, Told Tryz.prog 74 [x.av] (.c (.v (.bool (q4y x)))) := fun x hxm => ih x (by have := List.sizeOf_lt_of_mem hxm; simp at ht; omega) (j5l hsm.2.2.2.2 x hxm)
 obtain ⟨hsl, hkl, hks, hxl, _⟩ := hsm
 clear ih ht
 obtain ⟨V, hV⟩ : ∃ V, V = q4y (.mk k n s ks xs) := ⟨_, rfl⟩
 rw [← hV]
 rw [q4y] at hV
 have hT := z2a s hsl
 simp only [JT.av]
 refine VC.told ent_74 Tryz.func74 rfl Tryz.ntmps74 (by simp) (by simp [AV.pureB, AV.pureL, q0t]) (by simp [AV.pureB, AV.pureL]) fun hb => ?_
 clear hb
 (iterate 18 (first | refine pass ?_ | refine VC.region (by rfl) (by rfl) ?_ | (refine AO.step fun K hK => ?_; simp only [q0t, List.length_map, go_sem, Int.reduceBEq, Int.reduceLE, Int.reduceLT, Int.reduceNeg, Nat.reduceAdd, Nat.reduceEqDiff, Nat.reduceLT, Nat.reduceLeDiff, Nat.reduceMul, Nat.reduceSub, reduceCtorEq, ↓reduceIte]; (first | refine q38 ?_ | refine q1m ?_ | skip); (first | refine hK _ _ _ ?_ | refine ⟨by first | omega | exact ⟨_, rfl, rfl⟩ | exact fun _ => ⟨_, rfl, rfl⟩ | (intro h; simp only [q0t, List.length_map, h, true_and]; omega) | (clear hK; intro h; simp_all <;> omega), hK _ _ _ ?_⟩); clear hK K) | refine VC.draw mixP (by rfl) (by rfl) ?_ | refine ⟨q4b (by kernel_rfl), ?_⟩ | refine BQ.other (by decide) ?_ | refine VC.seq ?_ | refine AO.nil ?_ | refine VC.block ?_))
 obtain ⟨b1, hb1⟩ : ∃ b : Bool, b = (decide (k < 1) || decide (k > 6)) := ⟨_, rfl⟩
 rw [← hb1]; replace hb1 := Lib.hid hb1
 (iterate 15 (first | refine pass ?_ | refine VC.region (by rfl) (by rfl) ?_ | (refine AO.step fun K hK => ?_; simp only [q0t, List.length_map, go_sem, Int.reduceBEq, Int.reduceLE, Int.reduceLT, Int.reduceNeg, Nat.reduceAdd, Nat.reduceEqDiff, Nat.reduceLT, Nat.reduceLeDiff, Nat.reduceMul, Nat.reduceSub, reduceCtorEq, ↓reduceIte]; (first | refine q38 ?_ | refine q1m ?_ | skip); (first | refine hK _ _ _ ?_ | refine ⟨by first | omega | exact ⟨_, rfl, rfl⟩ | exact fun _ => ⟨_, rfl, rfl⟩ | (intro h; simp only [q0t, List.length_map, h, true_and]; omega) | (clear hK; intro h; simp_all <;> omega), hK _ _ _ ?_⟩); clear hK K) | refine VC.draw mixP (by rfl) (by rfl) ?_ | refine ⟨q4b (by kernel_rfl), ?_⟩ | refine BQ.other (by decide) ?_ | refine VC.seq ?_ | refine AO.nil ?_ | refine VC.block ?_))
 obtain ⟨b2, hb2⟩ : ∃ b : Bool, b = (b1 || k != 2 && k != 3 && n != 0) := ⟨_, rfl⟩
 rw [← hb2]; replace hb2 := Lib.hid hb2
 (iterate 15 (first | refine pass ?_ | refine VC.region (by rfl) (by rfl) ?_ | (refine AO.step fun K hK => ?_; simp only [q0t, List.length_map, go_sem, Int.reduceBEq, Int.reduceLE, Int.reduceLT, Int.reduceNeg, Nat.reduceAdd, Nat.reduceEqDiff, Nat.reduceLT, Nat.reduceLeDiff, Nat.reduceMul, Nat.reduceSub, reduceCtorEq, ↓reduceIte]; (first | refine q38 ?_ | refine q1m ?_ | skip); (first | refine hK _ _ _ ?_ | refine ⟨by first | omega | exact ⟨_, rfl, rfl⟩ | exact fun _ => ⟨_, rfl, rfl⟩ | (intro h; simp only [q0t, List.length_map, h, true_and]; omega) | (clear hK; intro h; simp_all <;> omega), hK _ _ _ ?_⟩); clear hK K) | refine VC.draw mixP (by rfl) (by rfl) ?_ | refine ⟨q4b (by kernel_rfl), ?_⟩ | refine BQ.other (by decide) ?_ | refine VC.seq ?_ | refine AO.nil ?_ | refine VC.block ?_))
 obtain ⟨b3, hb3⟩ : ∃ b : Bool, b = (b2 || k == 2 && n != 0 && n != 1) := ⟨_, rfl⟩
 rw [← hb3]; replace hb3 := Lib.hid hb3
 have hE : (⟨#[]⟩ : ByteArray).toList = [] := q2i []
 (iterate 10 (first | refine pass ?_ | refine VC.region (by rfl) (by rfl) ?_ | (refine AO.step fun K hK => ?_; simp only [q0t, List.length_map, q2i, hE, go_sem, Int.reduceBEq, Int.reduceLE, Int.reduceLT, Int.reduceNeg, Nat.reduceAdd, Nat.reduceEqDiff, Nat.reduceLT, Nat.reduceLeDiff, Nat.reduceMul, Nat.reduceSub, reduceCtorEq, ↓reduceIte]; (first | refine q38 ?_ | refine q1m ?_ | skip); (first | refine hK _ _ _ ?_ | refine ⟨by first | omega | exact ⟨_, rfl, rfl⟩ | exact fun _ => ⟨_, rfl, rfl⟩ | (intro h; simp only [q0t, List.length_map, q2i, hE, h, true_and]; omega) | (clear hK; intro h; simp_all <;> omega), hK _ _ _ ?_⟩); clear hK K) | refine VC.draw mixP (by rfl) (by rfl) ?_ | refine ⟨q4b (by kernel_rfl), ?_⟩ | refine BQ.other (by decide) ?_ | refine VC.seq ?_ | refine AO.nil ?_ | refine VC.block ?_))
 obtain ⟨b4, hb4⟩ : ∃ b : Bool, b = (b3 || k != 4 && !s == []) := ⟨_, rfl⟩
 rw [← hb4]; replace hb4 := Lib.hid hb4
 refine q0d (@q0t) ?_
 refine j20 (@q0t) (hT) ?_
 (iterate 3 (first | refine pass ?_ | refine VC.region (by rfl) (by rfl) ?_ | (refine AO.step fun K hK => ?_; simp only [q0t, List.length_map, go_sem, Int.reduceBEq, Int.reduceLE, Int.reduceLT, Int.reduceNeg, Nat.reduceAdd, Nat.reduceEqDiff, Nat.reduceLT, Nat.reduceLeDiff, Nat.reduceMul, Nat.reduceSub, reduceCtorEq, ↓reduceIte]; (first | refine q38 ?_ | refine q1m ?_ | skip); (first | refine hK _ _ _ ?_ | refine ⟨by first | omega | exact ⟨_, rfl, rfl⟩ | exact fun _ => ⟨_, rfl, rfl⟩ | (intro h; simp only [q0t, List.length_map, h, true_and]; omega) | (clear hK; intro h; simp_all <;> omega), hK _ _ _ ?_⟩); clear hK K) | refine VC.draw mixP (by rfl) (by rfl) ?_ | refine ⟨q4b (by kernel_rfl), ?_⟩ | refine BQ.other (by decide) ?_ | refine VC.seq ?_ | refine AO.nil ?_ | refine VC.block ?_))
 obtain ⟨b5, hb5⟩ : ∃ b : Bool, b = (b4 || !q3l s) := ⟨_, rfl⟩
 rw [← hb5]; replace hb5 := Lib.hid hb5
 (iterate 11 (first | refine pass ?_ | refine VC.region (by rfl) (by rfl) ?_ | (refine AO.step fun K hK => ?_; simp only [q0t, List.length_map, go_sem, Int.reduceBEq, Int.reduceLE, Int.reduceLT, Int.reduceNeg, Nat.reduceAdd, Nat.reduceEqDiff, Nat.reduceLT, Nat.reduceLeDiff, Nat.reduceMul, Nat.reduceSub, reduceCtorEq, ↓reduceIte]; (first | refine q38 ?_ | refine q1m ?_ | skip); (first | refine hK _ _ _ ?_ | refine ⟨by first | omega | exact ⟨_, rfl, rfl⟩ | exact fun _ => ⟨_, rfl, rfl⟩ | (intro h; simp only [q0t, List.length_map, h, true_and]; omega) | (clear hK; intro h; simp_all <;> omega), hK _ _ _ ?_⟩); clear hK K) | refine VC.draw mixP (by rfl) (by rfl) ?_ | refine ⟨q4b (by kernel_rfl), ?_⟩ | refine BQ.other (by decide) ?_ | refine VC.seq ?_ | refine AO.nil ?_ | refine VC.block ?_))
 obtain ⟨b6, hb6⟩ : ∃ b : Bool, b = (b5 || decide (k < 5) && decide ((xs.length : Int) > 0)) := ⟨_, rfl⟩
 rw [← hb6]; replace hb6 := Lib.hid hb6
 (iterate 11 (first | refine pass ?_ | refine VC.region (by rfl) (by rfl) ?_ | (refine AO.step fun K hK => ?_; simp only [q0t, List.length_map, go_sem, Int.reduceBEq, Int.reduceLE, Int.reduceLT, Int.reduceNeg, Nat.reduceAdd, Nat.reduceEqDiff, Nat.reduceLT, Nat.reduceLeDiff, Nat.reduceMul, Nat.reduceSub, reduceCtorEq, ↓reduceIte]; (first | refine q38 ?_ | refine q1m ?_ | skip); (first | refine hK _ _ _ ?_ | refine ⟨by first | omega | exact ⟨_, rfl, rfl⟩ | exact fun _ => ⟨_, rfl, rfl⟩ | (intro h; simp only [q0t, List.length_map, h, true_and]; omega) | (clear hK; intro h; simp_all <;> omega), hK _ _ _ ?_⟩); clear hK K) | refine VC.draw mixP (by rfl) (by rfl) ?_ | refine ⟨q4b (by kernel_rfl), ?_⟩ | refine BQ.other (by decide) ?_ | refine VC.seq ?_ | refine AO.nil ?_ | refine VC.block ?_))
 obtain ⟨b7, hb7⟩ : ∃ b : Bool, b = (b6 || k != 6 && decide ((ks.length : Int) > 0)) := ⟨_, rfl⟩
 rw [← hb7]; replace hb7 := Lib.hid hb7
 (iterate 13 (first | refine pass ?_ | refine VC.region (by rfl) (by rfl) ?_ | (refine AO.step fun K hK => ?_; simp only [q0t, List.length_map, go_sem, Int.reduceBEq, Int.reduceLE, Int.reduceLT, Int.reduceNeg, Nat.reduceAdd, Nat.reduceEqDiff, Nat.reduceLT, Nat.reduceLeDiff, Nat.reduceMul, Nat.reduceSub, reduceCtorEq, ↓reduceIte]; (first | refine q38 ?_ | refine q1m ?_ | skip); (first | refine hK _ _ _ ?_ | refine ⟨by first | omega | exact ⟨_, rfl, rfl⟩ | exact fun _ => ⟨_, rfl, rfl⟩ | (intro h; simp only [q0t, List.length_map, h, true_and]; omega) | (clear hK; intro h; simp_all <;> omega), hK _ _ _ ?_⟩); clear hK K) | refine VC.draw mixP (by rfl) (by rfl) ?_ | refine ⟨q4b (by kernel_rfl), ?_⟩ | refine BQ.other (by decide) ?_ | refine VC.seq ?_ | refine AO.nil ?_ | refine VC.block ?_))
 obtain ⟨b8, hb8⟩ : ∃ b : Bool, b = (b7 || k == 6 && (ks.length : Int) != (xs.length : Int)) := ⟨_, rfl⟩
 rw [← hb8]; replace hb8 := Lib.hid hb8
 have hF : rfail (.mk k n s ks xs) = b8 := by
  rw [hb8.out, hb7.out, hb6.out, hb5.out, hb4.out, hb3.out, hb2.out, hb1.out, rfail]
  have e1 : ∀ a b : Int, decide (a ≠ b) = (a != b) := fun a b => by by_cases h : a = b <;> simp [h]
  have e2 : ∀ a b : Int, decide (a = b) = (a == b) := fun a b => by by_cases h : a = b <;> simp [h]
  have e3 : s.isEmpty = (s == []) := by cases s <;> rfl
  have e4 : (!xs.isEmpty) = decide ((xs.length : Int) > 0) := by cases xs <;> simp <;> omega
  have e5 : (!ks.isEmpty) = decide ((ks.length : Int) > 0) := by cases ks <;> simp <;> omega
  have e6 : decide (ks.length ≠ xs.length) = ((ks.length : Int) != (xs.length : Int)) := by
   by_cases h : ks.length = xs.length
   · simp [h]
   · have : ¬ (ks.length : Int) = (xs.length : Int) := by omega
     simp [h, this]
  simp only [e1, e2, e3, e4, e5, e6]
 refine q0d (@q0t) ?_
 refine VC.cond (by rfl) (by trivial) (fun hc => ?_) (fun hc => ?_)
 · have hf : V = false := by rw [hV, hF, hc]; simp
   subst hf
   refine q0f (@q0t) ?_
   refine retX Tryz.results74 ?_
   exact .c _
 have hv : V = ((ks.all q3l && decide ks.Nodup) && q5u xs) := by rw [hV, hF, hc]; simp
 clear hV hF hb1 hb2 hb3 hb4 hb5 hb6 hb7 hb8 hT
 refine q0d (@q0t) ?_
 refine VC.loop (ι := {i : Nat // i ≤ ks.length ∧ (∀ y ∈ ks.take i, q3l y = true) ∧ (ks.take i).Nodup})
  (fun q => [(1, .ref 0 1 0 0), (3, .c (.v (.int .i64 (q.1 : Int))))]) (fun q => [(0, ⟨false, 25, 5, [(JT.mk k n s ks xs).cells.map .c]⟩)]) 2000 (fun q => ks.length - q.1) ⟨0, Nat.zero_le _, by simp, by simp⟩ ?_ ?_
 · exact q6e (@q0t)
 · rintro ⟨i, hi, hr, hd⟩
   simp only []
   refine q0d (@q0t) ?_
   refine VC.cond (by rfl) (by trivial) (fun hc2 => ?_) (fun hc2 => ?_)
   · have hlt : i < ks.length := by simp at hc2; omega
     obtain ⟨y, hy⟩ : ∃ y, ks[i]? = some y := ⟨ks[i], List.getElem?_eq_getElem hlt⟩
     have hw : IntKind.i64.wrap ((i : Int) + 1) = (i : Int) + 1 := q0w (by omega) (by omega)
     have hT := z2a y (hks y (List.mem_of_getElem? hy))
     refine q0d (And.intro @q0t (And.intro @q4w (And.intro hy (And.intro @q6a (And.intro @q2n (And.intro @q3a @q2t)))))) ?_
     refine q33 (@q0t) (hT) ?_
     refine q0d (@q0t) ?_
     refine VC.cond (by rfl) (by trivial) (fun hc3 => ?_) (fun hc3 => ?_)
     · have hf : V = false := by
        rw [hv]
        have : ks.all q3l = false := by
         rw [List.all_eq_false]
         exact ⟨y, List.mem_of_getElem? hy, by simpa using hc3⟩
        rw [this]
        rfl
       subst hf
       refine q0f (@q0t) ?_
       refine retX Tryz.results74 ?_
       exact .c _
     refine q0d (@q0t) ?_
     refine VC.loop (ι := {j : Nat // j ≤ i ∧ y ∉ ks.take j})
      (fun q => [(1, .ref 0 1 0 0), (3, .c (.v (.int .i64 (i : Int)))), (4, .c (.v (.int .i64 (q.1 : Int))))]) (fun q => [(0, ⟨false, 25, 5, [(JT.mk k n s ks xs).cells.map .c]⟩)]) 2000 (fun q => i - q.1) ⟨0, Nat.zero_le _, by simp⟩ ?_ ?_
     · exact q6e (@q0t)
     · rintro ⟨j, hj, hn⟩
       simp only []
       refine q0d (@q0t) ?_
       refine VC.cond (by rfl) (by trivial) (fun hc4 => ?_) (fun hc4 => ?_)
       · have hjt : j < i := by simp at hc4; omega
         obtain ⟨z, hz⟩ : ∃ z, ks[j]? = some z := ⟨ks[j], List.getElem?_eq_getElem (by omega)⟩
         have hwj : IntKind.i64.wrap ((j : Int) + 1) = (j : Int) + 1 := q0w (by omega) (by omega)
         refine q0d (And.intro @q0t (And.intro @q4w (And.intro hy (And.intro hz (And.intro @q6a (And.intro @q2n (And.intro @q3a (And.intro @q2t @q2i)))))))) ?_
         refine VC.cond (by rfl) (by trivial) (fun hc5 => ?_) (fun hc5 => ?_)
         · have hf : V = false := by
            rw [hv]
            have : decide ks.Nodup = false := by
             rw [decide_eq_false_iff_not]
             intro hnd
             have hzy : z = y := by simpa using hc5
             subst hzy
             exact absurd ((List.getElem?_inj (by omega) hnd).1 (hz.trans hy.symm)) (by omega)
            rw [this]
            simp
           subst hf
           refine q0f (@q0t) ?_
           refine retX Tryz.results74 ?_
           exact .c _
         refine q0d (hwj) ?_
         refine .next ⟨j + 1, by omega, ?_⟩ ?_ (by simp only []; omega)
         · rw [takeN hz]
           have hzy : z ≠ y := by simpa using hc5
           simp [hn, Ne.symm hzy]
         simp only [q0t, Weak, eq_self, q09, q03, sc_c, q05, q06, q07, q02, q04, ScL, q08, List.forall_mem_map, go_sem, Int.reduceBEq, Int.reduceLE, Int.reduceLT, Int.reduceNeg, Nat.reduceAdd, Nat.reduceEqDiff, Nat.reduceLT, Nat.reduceLeDiff, Nat.reduceMul, Nat.reduceSub, reduceCtorEq, ↓reduceIte]
         try exact cI (by omega)
       · have hji : j = i := by simp at hc4; omega
         refine q0d (hw) ?_
         refine .next ⟨i + 1, by omega, ?_, ?_⟩ ?_ (by simp only []; omega)
         · rw [takeN hy]
           intro u hu
           rcases List.mem_append.1 hu with h | h
           · exact hr u h
           · obtain rfl := List.mem_singleton.1 h
             simpa using hc3
         · rw [takeN hy, List.nodup_append]
           refine ⟨hd, by simp, ?_⟩
           intro a ha b hb
           obtain rfl := List.mem_singleton.1 hb
           rintro rfl
           exact hn (hji ▸ ha)
         simp only [q0t, Weak, eq_self, q09, q03, sc_c, q05, q06, q07, q02, q04, ScL, q08, List.forall_mem_map, go_sem, Int.reduceBEq, Int.reduceLE, Int.reduceLT, Int.reduceNeg, Nat.reduceAdd, Nat.reduceEqDiff, Nat.reduceLT, Nat.reduceLeDiff, Nat.reduceMul, Nat.reduceSub, reduceCtorEq, ↓reduceIte]
         try exact cI (by omega)
   · have hie : i = ks.length := by simp at hc2; omega
     subst hie
     rw [List.take_length] at hr hd
     have hv : V = q5u xs := by
      rw [hv, List.all_eq_true.2 hr]
      simp [hd]
     refine q0d (@q0t) ?_
     refine VC.loop (ι := {i : Nat // i ≤ xs.length ∧ (∀ y ∈ xs.take i, q4y y = true)})
      (fun q => [(1, .ref 0 1 0 0), (5, .c (.v (.int .i64 (q.1 : Int))))]) (fun q => [(0, ⟨false, 25, 5, [(JT.mk k n s ks xs).cells.map .c]⟩)]) 2000 (fun q => xs.length - q.1) ⟨0, Nat.zero_le _, by simp⟩ ?_ ?_
     · exact q6e (@q0t)
     · rintro ⟨i, hi, hr⟩
       simp only []
       refine q0d (@q0t) ?_
       refine VC.cond (by rfl) (by trivial) (fun hc3 => ?_) (fun hc3 => ?_)
       · have hlt : i < xs.length := by simp at hc3; omega
         obtain ⟨y, hy⟩ : ∃ y, xs[i]? = some y := ⟨xs[i], List.getElem?_eq_getElem hlt⟩
         have hw : IntKind.i64.wrap ((i : Int) + 1) = (i : Int) + 1 := q0w (by omega) (by omega)
         have hyc : (xs.map JT.cells)[i]? = some y.cells := by rw [List.getElem?_map, hy]; rfl
         have hT := hx y (List.mem_of_getElem? hy)
         simp only [JT.av] at hT
         refine q0d (And.intro @q0t (And.intro hyc (And.intro @q2n (And.intro @q3a @q2t)))) ?_
         refine q33 (And.intro @q2n (And.intro @q3a (And.intro @q2t @q20))) (hT) ?_
         refine q0d (@q0t) ?_
         refine VC.cond (by rfl) (by trivial) (fun hc5 => ?_) (fun hc5 => ?_)
         · have hf : V = false := by
            rw [hv, j7r, List.all_eq_false]
            exact ⟨y, List.mem_of_getElem? hy, by simpa using hc5⟩
           subst hf
           refine q0f (@q0t) ?_
           refine retX Tryz.results74 ?_
           exact .c _
         refine q0d (hw) ?_
         refine .next ⟨i + 1, by omega, ?_⟩ ?_ (by simp only []; omega)
         · rw [takeN hy]
           intro u hu
           rcases List.mem_append.1 hu with h | h
           · exact hr u h
           · obtain rfl := List.mem_singleton.1 h
             simpa using hc5
         simp only [q0t, Weak, eq_self, q09, q03, sc_c, q05, q06, q07, q02, q04, ScL, q08, List.forall_mem_map, go_sem, Int.reduceBEq, Int.reduceLE, Int.reduceLT, Int.reduceNeg, Nat.reduceAdd, Nat.reduceEqDiff, Nat.reduceLT, Nat.reduceLeDiff, Nat.reduceMul, Nat.reduceSub, reduceCtorEq, ↓reduceIte]
         try exact cI (by omega)
       · have hie : i = xs.length := by simp at hc3; omega
         subst hie
         rw [List.take_length] at hr
         have hf : V = true := by
          rw [hv, j7r, List.all_eq_true.2 hr]
         subst hf
         refine q0d (@q0t) ?_
         refine retX Tryz.results74 ?_
         exact .c _

theorem z50 : ∀ (m : Nat) (t : JT), SizeOf.sizeOf t ≤ m → q1y t ≤ 1000 → Told Tryz.prog 73 [t.av] (.c (.v (.int .i64 (q1y t)))) := by
 intro m
 induction m with
 | zero => intro t ht; cases t; simp at ht
 | succ m ih =>
 intro t ht hd
 cases t with
 | mk k n s ks xs =>
 refine VC.told ent_73 Tryz.func73 rfl Tryz.ntmps73 (by simp) rfl rfl fun hb => ?_
 simp only [JT.av, q0t, List.map_cons, List.map_nil, q8f, q47, q81, q5d, List.mem_cons, List.not_mem_nil, or_false, forall_eq_or_imp, forall_eq, true_and, List.length_map] at hb ⊢
 have hxl := hb.1.1
 clear hb
 refine q0c ?_
 refine VC.cond (by rfl) (by trivial) (fun hc => ?_) (fun hc => ?_)
 · have hk : ¬ (k = 5 ∨ k = 6) := by
    simp at hc
    omega
   have hdd : q1y (.mk k n s ks xs) = 0 := by simp [q1y, hk]
   rw [hdd]
   refine q0c ?_
   refine ⟨.inr rfl, ?_⟩
   rw [Tryz.results73]
   simp only [q1x, resV, go_sem, simprocAttr]
   exact .c _
 · have hk : k = 5 ∨ k = 6 := by
    simp at hc
    omega
   have hdd : q1y (.mk k n s ks xs) = q23 1 xs := by simp [q1y, hk]
   rw [hdd] at hd ⊢
   clear hc
   refine q0c ?_
   refine VC.loop (ι := {i : Nat // i ≤ xs.length}) (fun i => [(1, .ref 0 1 0 0), (3, .c (.v (.int .i64 (q23 1 (xs.take i.1))))), (4, .c (.v (.int .i64 i.1)))])
    (fun _ => [(0, ⟨false, 25, 5, [(JT.mk k n s ks xs).cells.map .c]⟩)]) 8 (fun i => xs.length - i.1) ⟨0, Nat.zero_le _⟩ ?_ ?_
   · simp only [List.take_zero, q23, q0t, Weak, eq_self, q09, q03, sc_c, q05, q06, q07, q02, q04, ScL, q08, List.forall_mem_map, go_sem, Int.reduceBEq, Int.reduceLE, Int.reduceLT, Int.reduceNeg, Nat.reduceAdd, Nat.reduceEqDiff, Nat.reduceLT, Nat.reduceLeDiff, Nat.reduceMul, Nat.reduceSub, reduceCtorEq, ↓reduceIte]
     all_goals rfl
   rintro ⟨i, hi⟩
   refine q0d (@q0t) ?_
   refine VC.cond (by rfl) (by trivial) (fun hc => ?_) (fun hc => ?_)
   · simp only [decide_eq_true_eq] at hc
     have hlt : i < xs.length := by omega
     obtain ⟨x, hx⟩ : ∃ x, xs[i]? = some x := ⟨xs[i], List.getElem?_eq_getElem hlt⟩
     have hxm := List.mem_of_getElem? hx
     have hle := (j5n xs 1).2 x hxm
     have hcall := ih x (by
      have h1 := List.sizeOf_lt_of_mem hxm
      simp at ht
      omega) (by omega)
     have hmm : q23 1 (xs.take (i + 1)) = max (q23 1 (xs.take i)) (1 + q1y x) := by
      rw [← z20, List.take_add_one, hx]
      rfl
     have hw : IntKind.i64.wrap ((q1y x : Int) + 1) = (q1y x : Int) + 1 := q0w (by omega) (by omega)
     have hw2 : IntKind.i64.wrap ((i : Int) + 1) = (i : Int) + 1 := q0w (by omega) (by omega)
     refine q0d (And.intro @q0t (And.intro @q4w (And.intro hx (And.intro @q2n (And.intro @q3a @q2t))))) ?_
     (refine AO.step fun K hK => ?_; simp only [go_sem, Int.reduceBEq, Int.reduceLE, Int.reduceLT, Int.reduceNeg, Nat.reduceAdd, Nat.reduceEqDiff, Nat.reduceLT, Nat.reduceLeDiff, Nat.reduceMul, Nat.reduceSub, reduceCtorEq, ↓reduceIte, q20]; (first | refine q1m ?_ | skip))
     refine .inl ⟨_, hcall, hK _ _ _ ?_⟩
     clear hK K
     refine q0d (And.intro hw hw2) ?_
     refine VC.cond (by rfl) (by trivial) (fun hc2 => ?_) (fun hc2 => ?_)
     · simp only [decide_eq_true_eq] at hc2
       refine q0d (hw2) ?_
       refine .next ⟨i + 1, by omega⟩ ?_ (by simp only []; omega)
       refine q1l (And.intro hmm @q0t) ?_
       exact ⟨cI (by omega), cI (by omega)⟩
     · simp only [decide_eq_false_iff_not] at hc2
       refine q0d (hw2) ?_
       refine .next ⟨i + 1, by omega⟩ ?_ (by simp only []; omega)
       refine q1l (And.intro hmm @q0t) ?_
       exact ⟨cI (by omega), cI (by omega)⟩
   · simp only [decide_eq_false_iff_not] at hc
     obtain rfl : i = xs.length := by omega
     refine q0c ?_
     refine ⟨.inr rfl, ?_⟩
     rw [Tryz.results73]
     simp only [q1x, resV, go_sem, simprocAttr]
     rw [List.take_length]
     exact .c _

theorem z6l (t : JT) (h1 : t.sm 1000000) (h2 : q1y t ≤ 1000) : Told Tryz.prog 38 [t.av] (.c (.v (.bool (jR t)))) := by
 have hS := z6o _ t (Nat.le_refl _) h1
 have hD := z50 _ t (Nat.le_refl _) h2
 have hV : jR t = (decide ((q1y t : Int) ≤ 32) && q4y t) := by
  rw [j3f]
  congr 1
  by_cases h : q1y t ≤ 32
  · simp [h]; omega
  · simp [h]; omega
 obtain ⟨V, hVV⟩ : ∃ V, V = jR t := ⟨_, rfl⟩
 rw [← hVV] at hV ⊢
 refine VC.told ent_38 Tryz.func38 rfl Tryz.ntmps38 (by simp) (by simp [AV.pureB, AV.pureL, JT.av, q20]) rfl fun hb => ?_
 clear hb
 refine q0d (And.intro @JT.av_eq (And.intro @q2n (And.intro @q3a @q2t))) ?_
 refine q33 (And.intro @JT.av_eq (And.intro @q2n (And.intro @q3a (And.intro @q2t @q20)))) (hD) ?_
 refine q0d (And.intro @JT.av_eq (And.intro @q2n (And.intro @q3a @q2t))) ?_
 refine j20 (And.intro @JT.av_eq (And.intro @q2n (And.intro @q3a (And.intro @q2t @q20)))) (hS) ?_
 refine q0c ?_
 refine retX Tryz.results38 ?_
 rw [hV]
 exact .c _

theorem rone_told (a b : NT) : Told Tryz.prog 41 [a.av, b.av] (.c (.v (.bool (ceq a b)))) := by
 obtain ⟨V, hV⟩ : ∃ V, V = ceq a b := ⟨_, rfl⟩
 rw [← hV]
 have hT1 := j7u a.aliases b.aliases
 have hT2 := j7u a.symbols b.symbols
 obtain ⟨t1, ht1⟩ : ∃ t, t = (a.aliases == b.aliases) := ⟨_, rfl⟩
 obtain ⟨t2, ht2⟩ : ∃ t, t = (a.symbols == b.symbols) := ⟨_, rfl⟩
 rw [← ht1] at hT1
 rw [← ht2] at hT2
 rw [NT.av_eq, NT.av_eq, q3w, q3w]
 refine VC.toldP ent_41 Tryz.func41 rfl Tryz.ntmps41 fun hb => ?_
 simp only [List.map_cons, List.map_nil, q8f, q47, q81, q5d, List.mem_cons, List.not_mem_nil, or_false, forall_eq_or_imp, forall_eq, true_and, List.length_map] at hb
 have hfl : a.fields.length ≤ 9223372036854775807 := hb.1.2.1.1
 have hbl : a.branches.length ≤ 9223372036854775807 := hb.1.2.2.2.1
 clear hb
 refine q0d (@q2i) ?_
 refine q6x (hT1) ?_
 refine q0d (@q2i) ?_
 refine q6x (hT2) ?_
 refine q0d (@q2i) ?_
 refine VC.cond (by rfl) (by trivial) (fun hc => ?_) (fun hc => ?_)
 · have hf : V = false := by
    cases h : V with
    | false => rfl
    | true =>
      rw [hV, j24] at h
      subst h
      simp [ht1, ht2] at hc
   subst hf
   refine q0c ?_
   refine retX Tryz.results41 ?_
   exact .c _
 simp only [Bool.or_eq_false_iff, bne_eq_false_iff_eq, Bool.not_eq_false', beq_iff_eq] at hc
 obtain ⟨⟨⟨⟨⟨⟨⟨⟨⟨h1, h2⟩, h3⟩, h4⟩, h5⟩, h6⟩, h7⟩, h8⟩, h9⟩, h10⟩ := hc
 have hbb : a.branches.length = b.branches.length := by omega
 have hff : a.fields.length = b.fields.length := by omega
 have e3 : a.aliases = b.aliases := by simpa [ht1] using h3
 have e4 : a.symbols = b.symbols := by simpa [ht2] using h4
 have hv : V = (ceq a.fields b.fields && (a.branches == b.branches)) := by
  rw [hV, ceq_node, h1, h2, e3, e4, h5, h6, h7, h8]
  simp
 clear hV hT1 hT2 ht1 ht2
 refine q0c ?_
 refine VC.loop (ι := {i : Nat // i ≤ a.branches.length ∧ a.branches.take i = b.branches.take i}) (fun q => [(2, .ref 0 1 0 0), (3, .ref 8 1 0 0), (5, .c (.v (.int .i64 (q.1 : Int))))])
  (fun _ => [(0, ⟨false, 40, 10, [a.cells.map .c]⟩), (8, ⟨false, 40, 10, [b.cells.map .c]⟩)]) 800 (fun q => a.branches.length - q.1) ⟨0, Nat.zero_le _, rfl⟩ ?_ ?_
 · simp only [q3w, Weak, eq_self, q09, q03, sc_c, q05, q06, q07, q02, q04, ScL, q08, List.forall_mem_map, go_sem, Int.reduceBEq, Int.reduceLE, Int.reduceLT, Int.reduceNeg, Nat.reduceAdd, Nat.reduceEqDiff, Nat.reduceLT, Nat.reduceLeDiff, Nat.reduceMul, Nat.reduceSub, reduceCtorEq, ↓reduceIte]
   try simp
 rintro ⟨i, hi, ht⟩
 simp only []
 refine q0d (@q3w) ?_
 refine VC.cond (by rfl) (by trivial) (fun hc => ?_) (fun hc => ?_)
 · have hlt : i < a.branches.length := by simp at hc; omega
   obtain ⟨x, hx⟩ : ∃ x, a.branches[i]? = some x := ⟨a.branches[i], List.getElem?_eq_getElem hlt⟩
   obtain ⟨y, hy⟩ : ∃ y, b.branches[i]? = some y := ⟨b.branches[i]'(by omega), List.getElem?_eq_getElem (by omega)⟩
   have hw : IntKind.i64.wrap ((i : Int) + 1) = (i : Int) + 1 := q0w (by omega) (by omega)
   have hxp : (a.branches.map iPV)[i]? = some (iPV x) := by rw [List.getElem?_map, hx]; rfl
   have hyp : (b.branches.map iPV)[i]? = some (iPV y) := by rw [List.getElem?_map, hy]; rfl
   refine q0d (And.intro @q3w (And.intro hxp (And.intro hyp @q66))) ?_
   refine VC.cond (by rfl) (by trivial) (fun hc2 => ?_) (fun hc2 => ?_)
   · have hf : V = false := by
      have : (a.branches == b.branches) = false := by
       rw [beq_eq_false_iff_ne]
       exact ne_at hx hy (by simpa using hc2)
      rw [hv, this]
      simp
     subst hf
     refine q0c ?_
     refine retX Tryz.results41 ?_
     exact .c _
   · have hxy : x = y := by simpa using hc2
     refine q0d (hw) ?_
     refine .next ⟨i + 1, by omega, j74 hx hy ht hxy⟩ ?_ (by simp only []; omega)
     simp only [q3w, Weak, eq_self, q09, q03, sc_c, q05, q06, q07, q02, q04, ScL, q08, List.forall_mem_map, go_sem, Int.reduceBEq, Int.reduceLE, Int.reduceLT, Int.reduceNeg, Nat.reduceAdd, Nat.reduceEqDiff, Nat.reduceLT, Nat.reduceLeDiff, Nat.reduceMul, Nat.reduceSub, reduceCtorEq, ↓reduceIte]
     try exact cI (by omega)
 have hie : i = a.branches.length := by simp at hc; omega
 have hbe : a.branches = b.branches := j73 ht hie hbb
 have hv2 : V = ceq a.fields b.fields := by rw [hv, hbe]; simp
 clear hv hc
 refine q0c ?_
 refine VC.loop (ι := {i : Nat // i ≤ a.fields.length ∧ a.fields.take i = b.fields.take i}) (fun q => [(2, .ref 0 1 0 0), (3, .ref 8 1 0 0), (6, .c (.v (.int .i64 (q.1 : Int))))])
  (fun _ => [(0, ⟨false, 40, 10, [a.cells.map .c]⟩), (8, ⟨false, 40, 10, [b.cells.map .c]⟩)]) 1600 (fun q => a.fields.length - q.1) ⟨0, Nat.zero_le _, rfl⟩ ?_ ?_
 · simp only [q3w, Weak, eq_self, q09, q03, sc_c, q05, q06, q07, q02, q04, ScL, q08, List.forall_mem_map, go_sem, Int.reduceBEq, Int.reduceLE, Int.reduceLT, Int.reduceNeg, Nat.reduceAdd, Nat.reduceEqDiff, Nat.reduceLT, Nat.reduceLeDiff, Nat.reduceMul, Nat.reduceSub, reduceCtorEq, ↓reduceIte]
   try simp
 clear hie ht hi i
 rintro ⟨i, hi, ht⟩
 simp only []
 refine q0d (@q3w) ?_
 refine VC.cond (by rfl) (by trivial) (fun hc => ?_) (fun hc => ?_)
 · have hlt : i < a.fields.length := by simp at hc; omega
   obtain ⟨x, hx⟩ : ∃ x, a.fields[i]? = some x := ⟨a.fields[i], List.getElem?_eq_getElem hlt⟩
   obtain ⟨y, hy⟩ : ∃ y, b.fields[i]? = some y := ⟨b.fields[i]'(by omega), List.getElem?_eq_getElem (by omega)⟩
   have hw : IntKind.i64.wrap ((i : Int) + 1) = (i : Int) + 1 := q0w (by omega) (by omega)
   have hxp : (a.fields.map FT.cells)[i]? = some x.cells := by rw [List.getElem?_map, hx]; rfl
   have hyp : (b.fields.map FT.cells)[i]? = some y.cells := by rw [List.getElem?_map, hy]; rfl
   have hT := j7u x.aliases y.aliases
   have hS := z6n _ x.dflt y.dflt (Nat.le_refl _)
   simp only [JT.av] at hS
   obtain ⟨u1, hu1⟩ : ∃ t, t = (x.aliases == y.aliases) := ⟨_, rfl⟩
   obtain ⟨u2, hu2⟩ : ∃ t, t = jeq x.dflt y.dflt := ⟨_, rfl⟩
   rw [← hu1] at hT
   rw [← hu2] at hS
   refine q0d (And.intro @q3w (And.intro hxp (And.intro hyp (And.intro @j2d (And.intro @q2n (And.intro @q3a (And.intro @q2t @q2i))))))) ?_
   refine q6x (hT) ?_
   refine q0d (And.intro @q3w (And.intro hxp (And.intro hyp (And.intro @j2d (And.intro @q2n (And.intro @q3a (And.intro @q2t @q2i))))))) ?_
   refine j20 (@q20) (hS) ?_
   refine q0c ?_
   refine VC.cond (by rfl) (by trivial) (fun hc2 => ?_) (fun hc2 => ?_)
   · have hne : x ≠ y := by
      rintro rfl
      simp [hu1, hu2, j6x] at hc2
     have hf : V = false := by
      rw [hv2, ceq_false]
      exact ne_at hx hy hne
     subst hf
     refine q0c ?_
     refine retX Tryz.results41 ?_
     exact .c _
   · have hxy : x = y := by
      have e := ceq_field x y
      simp only [Bool.or_eq_false_iff, bne_eq_false_iff_eq, Bool.not_eq_false', beq_iff_eq] at hc2
      obtain ⟨⟨⟨⟨g1, g2⟩, g3⟩, g4⟩, g5⟩ := hc2
      have g2 : x.aliases = y.aliases := by simpa [hu1] using g2
      rw [← j24, e, g1, g2, g3, g4, ← hu2, g5]
      simp
     refine q0d (hw) ?_
     refine .next ⟨i + 1, by omega, j74 hx hy ht hxy⟩ ?_ (by simp only []; omega)
     simp only [q3w, Weak, eq_self, q09, q03, sc_c, q05, q06, q07, q02, q04, ScL, q08, List.forall_mem_map, go_sem, Int.reduceBEq, Int.reduceLE, Int.reduceLT, Int.reduceNeg, Nat.reduceAdd, Nat.reduceEqDiff, Nat.reduceLT, Nat.reduceLeDiff, Nat.reduceMul, Nat.reduceSub, reduceCtorEq, ↓reduceIte]
     try exact cI (by omega)
 · have hie : i = a.fields.length := by simp at hc; omega
   have hfe : a.fields = b.fields := j73 ht hie hff
   have hf : V = true := by
    rw [hv2, hfe, j9n]
   subst hf
   refine q0c ?_
   refine retX Tryz.results41 ?_
   exact .c _

theorem gListB {ns : List NT} {G : Nat → Int} {l' : List Int} (hG : IsG ns G) (hr : ∀ p, ∀ x ∈ q15 ns p, x.type.toNat < ns.length) (h : WOk ns l') (he : q14 ns l' = l') : l' = (List.range ns.length).map G := by
 apply List.ext_getElem?
 intro i
 by_cases hi : i < ns.length
 · rw [wok_G hG hr h he i hi, List.getElem?_map, List.getElem?_range hi]
   rfl
 · rw [List.getElem?_eq_none (by have := h.1; omega), List.getElem?_eq_none (by simp; omega)]
theorem z5x (j : JT) (hs : j.sm 1000000) (hd : q1y j ≤ 1000) : Told Tryz.prog 14 [j.av] (.tup [(q36 j).1.av, .c (.v (.int .i64 (q36 j).2))]) := by
 have hR := z6l j hs hd
 cases hr : jR j with
 | false =>
   rw [hr] at hR
   have hb : q36 j = (⟨[], 0⟩, 2) := by
    unfold q36 q49
    rw [hr]
    rfl
   rw [hb]
   simp only [ST.av_eq, q2q, List.map_nil, List.map_cons]
   clear hb
   rw [JT.av_eq j, q0m j] at *
   generalize j.kd = j1 at *
   generalize j.num = j2 at *
   generalize j.txt = j3 at *
   generalize j.its = j4 at *
   generalize j.keys = j5 at *
   refine VC.toldP ent_14 Tryz.func14 rfl Tryz.ntmps14 fun hb => ?_
   clear hb
   refine q0c ?_
   refine q0e (hR) ?_
   refine q0u ?_
   refine retX Tryz.results14 ?_
   exact ⟨.aggL (.cons (.nil 10) (.cons (.c _) .nil)), .c _⟩
 | true =>
 rw [hr] at hR
 have hd32 : q1y j ≤ 32 := by
  rw [j3f, Bool.and_eq_true, decide_eq_true_eq] at hr
  exact hr.1
 have hN := j5a 33 j [] (by omega) hs (by simp) [] (by simp)
 have hErr := j2q 33 [] j []
 rw [show hsE [] = [] from rfl] at hN
 cases hB : q3e 33 [] j [] with
 | error e =>
   have hb : q36 j = (⟨[], 0⟩, e) := by
    unfold q36 q49
    rw [hr, if_pos rfl, hB]
   have hY := hN.no e hB
   have q1 : (e != 0) = true := by simpa using hErr e hB
   rw [hb]
   simp only [ST.av_eq, q2q, List.map_nil, List.map_cons]
   clear hb hN hErr hB hr hd hd32 hs
   rw [show str [] = ⟨#[]⟩ from rfl] at hY
   rw [JT.av_eq j, q0m j] at *
   generalize j.kd = j1 at *
   generalize j.num = j2 at *
   generalize j.txt = j3 at *
   generalize j.its = j4 at *
   generalize j.keys = j5 at *
   unfold xS xN at hY
   refine VC.toldP ent_14 Tryz.func14 rfl Tryz.ntmps14 fun hb => ?_
   clear hb
   refine q0c ?_
   refine q0e (hR) ?_
   refine q0c ?_
   refine VC.condF (by rfl) (by trivial) ?_
   refine VC.skip ?_; refine SQ.normal ?_
   refine j21 ?_
   refine VC.nilH 56 0 40 10 ⟨false, 66, 2, [[.c (.v (.slice none 0 0)), .c (.v (.int .i64 0))]]⟩ [.c (.v (.slice none 0 0)), .c (.v (.int .i64 0))] (by rfl) rfl rfl (by rfl) (by rfl) ?_
   refine q0c ?_
   refine q0i (And.intro @q0a (And.intro @q0b @q32)) [56, 72] (hY) ?_
   refine q0f (q1) ?_
   refine retX Tryz.results14 ?_
   exact ⟨.aggL (.cons (.nil 10) (.cons (.c _) .nil)), .c _⟩
 | ok V =>
 obtain ⟨ns, k⟩ := V
 have hb1 : q49 j = .ok ⟨ns, 0⟩ := by
  unfold q49
  rw [hr, if_pos rfl, hB]
 have hb : q36 j = if q65 ⟨ns, 0⟩ = true then (⟨[], 0⟩, 3) else (⟨ns, 0⟩, 0) := by
  unfold q36
  rw [hb1]
 have hY := hN.yes ns k hB
 have ho := j51 hb1
 obtain ⟨hl, hsm⟩ := j9h hs hb1
 simp only [] at hl hsm
 obtain ⟨G, hG⟩ := exG ns (j7i ho)
 have hw : ∀ i, i < ns.length → wOf ns i = G i := fun i hi => wOf_G hG (j7i ho) hi
 have hWt := z6v ⟨ns, 0⟩ hl hsm (fun p x hx => by
  unfold q15 at hx
  split at hx
  · rename_i n hn
    split at hx
    · rename_i h9
      exact j7j ho n (List.mem_of_getElem? hn) h9 x hx
    · simp at hx
  · simp at hx) _ fun l' h he => gListB hG (j7i ho) h he
 simp only [ST.av_eq, q2q, List.map_cons, List.map_nil] at hWt
 have hGl : (((List.range ns.length).map G).map iPV).length = ns.length := by simp
 have hGx : ∀ i, i < ns.length → (((List.range ns.length).map G).map iPV)[i]? = some [.v (.int .i64 (G i))] := fun i hi => by rw [List.getElem?_map, List.getElem?_map, List.getElem?_range hi]; rfl
 generalize ((List.range ns.length).map G).map iPV = W at hWt hGl hGx
 obtain ⟨X, hX⟩ : ∃ X, X = q36 j := ⟨_, rfl⟩
 rw [← hX]
 rw [hb] at hX
 have hheavy : ∀ i, i < ns.length → 1000 < G i → X = (⟨[], 0⟩, 3) := fun i hi h => by
  rw [hX, if_pos]
  cases hh : q65 ⟨ns, 0⟩ with
  | true => rfl
  | false =>
    have := heavy_no hh i hi
    simp only [] at this
    rw [hw i hi] at this
    omega
 have hlight : (∀ i, i < ns.length → G i ≤ 1000) → X = (⟨ns, 0⟩, 0) := fun h => by
  rw [hX, if_neg]
  rw [heavy_of (s := ⟨ns, 0⟩) fun i hi => by simp only [] at hi ⊢; rw [hw i hi]; exact h i hi]
  simp
 clear hX hb hb1 hw hG ho hsm hErr hN hB hr hd hd32 hs
 obtain ⟨X1, X2⟩ := X
 simp only [] at hheavy hlight ⊢
 simp only [ST.av_eq, q2q, List.map_nil, List.map_cons]
 rw [show str [] = ⟨#[]⟩ from rfl] at hY
 have hpv : rA EN.cells (ns.map EN.of) = (ns.map NT.cells).map fun e => e.map .c := (q4p _ _).trans (by rw [j7e])
 have hrl : (rA EN.cells (ns.map EN.of)).length = ns.length := by rw [q0a, List.length_map]
 simp only [List.nil_append] at hY
 rw [JT.av_eq j, q0m j] at *
 generalize j.kd = j1 at *
 generalize j.num = j2 at *
 generalize j.txt = j3 at *
 generalize j.its = j4 at *
 generalize j.keys = j5 at *
 unfold xS xN at hY
 refine VC.toldP ent_14 Tryz.func14 rfl Tryz.ntmps14 fun hb => ?_
 clear hb
 refine q0c ?_
 refine q0e (hR) ?_
 refine q0c ?_
 refine VC.condF (by rfl) (by trivial) ?_
 refine VC.skip ?_; refine SQ.normal ?_
 refine j21 ?_
 refine VC.nilH 56 0 40 10 ⟨false, 66, 2, [[.c (.v (.slice none 0 0)), .c (.v (.int .i64 0))]]⟩ [.c (.v (.slice none 0 0)), .c (.v (.int .i64 0))] (by rfl) rfl rfl (by rfl) (by rfl) ?_
 refine q0c ?_
 refine q0i (And.intro @q0a (And.intro @q0b @q32)) [56, 72] (hY) ?_
 refine q0d (And.intro @q0a @q0b) ?_
 refine VC.condF (by rfl) (by trivial) ?_
 refine VC.skip ?_; refine SQ.normal ?_
 refine VC.frz [72] [(2, .ref 8 1 0 0), (4, .ref 56 1 0 0)] [(56, ⟨false, 66, 2, [[.c (.sl 10 (ns.map NT.cells)), .c (.v (.int .i64 0))]]⟩), (8, ⟨false, 30, 2, [[.c (.v (.slice none 0 0)), .c (.v (.int .i64 0))]]⟩)] 1000 ?_ ?_
 · refine q6y (And.intro @q0g (And.intro @q0a @q0b)) ?_
   exact ⟨⟨.same _, .same _⟩, .one (.cons (.row (B := ⟨true, 40, 10, rA EN.cells (ns.map EN.of)⟩) (es := ns.map NT.cells) (by simp) (by rfl) rfl hrl hpv) (.cons (.same _) .nil)) (by simp [AV.cellish]), .same _⟩
 refine q0c ?_
 refine q0e (hWt) ?_
 refine q0d (hGl) ?_
 refine VC.loop (ι := {i : Nat // i ≤ ns.length ∧ ∀ k, k < i → G k ≤ 1000}) (fun q => [(2, .ref 8 1 0 0), (4, .ref 56 1 0 0), (7, .c (.sl 1 W)), (8, .c (.v (.int .i64 (q.1 : Int))))])
  (fun q => [(56, ⟨false, 66, 2, [[.c (.sl 10 (ns.map NT.cells)), .c (.v (.int .i64 0))]]⟩), (8, ⟨false, 30, 2, [[.c (.v (.slice none 0 0)), .c (.v (.int .i64 0))]]⟩)]) 3000 (fun q => ns.length - q.1) ⟨0, Nat.zero_le _, fun k hk => absurd hk (Nat.not_lt_zero _)⟩ ?_ ?_
 · simp only [Weak, eq_self, q09, q03, sc_c, q05, q06, q07, q02, q04, ScL, q08, List.forall_mem_map, go_sem, Int.reduceBEq, Int.reduceLE, Int.reduceLT, Int.reduceNeg, Nat.reduceAdd, Nat.reduceEqDiff, Nat.reduceLT, Nat.reduceLeDiff, Nat.reduceMul, Nat.reduceSub, reduceCtorEq, ↓reduceIte]
   all_goals first | rfl | exact Nat.le_refl _
 rintro ⟨i, hi, hgi⟩
 simp only []
 refine q0d (hGl) ?_
 refine VC.cond (by rfl) (by trivial) (fun hc => ?_) (fun hc => ?_)
 · have hlt : i < ns.length := by simp at hc; omega
   have hx := hGx i hlt
   have hil : (i : Int) < (ns.length : Int) := by omega
   have hwi : IntKind.i64.wrap ((i : Int) + 1) = (i : Int) + 1 := q0w (by omega) (by omega)
   by_cases hg : 1000 < G i
   · have q1 : decide (G i > 1000) = true := by simpa using hg
     have hXX := hheavy i hlt hg
     obtain ⟨rfl, rfl⟩ := Prod.mk.inj hXX
     refine q0f (And.intro hx (And.intro hGl (And.intro hil q1))) ?_
     refine retX Tryz.results14 ?_
     exact ⟨.aggL (.cons (.nil 10) (.cons (.c _) .nil)), .c _⟩
   · have q1 : decide (G i > 1000) = false := by simp; omega
     refine q0f (And.intro hx (And.intro hGl (And.intro hil (And.intro q1 hwi)))) ?_
     refine .next ⟨i + 1, by omega, fun k hk => (Nat.lt_or_ge k i).elim (fun h => hgi k h) fun h => by rw [show k = i by omega]; omega⟩ ?_ (by simp only []; omega)
     refine q4q ?_
     exact cI (by omega)
 · have hie : i = ns.length := by simp at hc; omega
   have hXX := hlight fun k hk => hgi k (by omega)
   obtain ⟨rfl, rfl⟩ := Prod.mk.inj hXX
   refine q0c ?_
   refine retX Tryz.results14 ?_
   exact ⟨.aggL (.cons (.c _) (.cons (.c _) .nil)), .c _⟩
theorem z6m (s : ST) : Told Tryz.prog 15 [s.av, s.av] (.c (.v (.bool true))) := by
 have hO := fun n => rone_told n n
 rw [ST.av_eq, q2q]
 obtain ⟨ns, r⟩ := s
 simp only []
 have q1 : (r != r) = false := by simp
 have q2 : ((ns.length : Int) != (ns.length : Int)) = false := by simp
 refine VC.toldP ent_15 Tryz.func15 rfl Tryz.ntmps15 fun hb => ?_
 have hnl : ns.length ≤ 9223372036854775807 := by
  simp only [List.map_cons, List.map_nil, List.mem_cons, List.not_mem_nil, or_false, forall_eq_or_imp, forall_eq, q8f, q47, q5d, List.length_map] at hb
  exact hb.1.1.1
 clear hb
 refine q0f (And.intro q1 q2) ?_
 refine VC.loop (ι := {i : Nat // i ≤ ns.length}) (fun q => [(2, .ref 0 1 0 0), (3, .ref 8 1 0 0), (5, .c (.v (.int .i64 (q.1 : Int))))])
  (fun q => [(0, ⟨false, 30, 2, [[.c (.sl 10 (ns.map NT.cells)), .c (.v (.int .i64 r))]]⟩), (8, ⟨false, 30, 2, [[.c (.sl 10 (ns.map NT.cells)), .c (.v (.int .i64 r))]]⟩)]) 800 (fun q => ns.length - q.1) ⟨0, Nat.zero_le _⟩ ?_ ?_
 · simp only [Weak, eq_self, q09, q03, sc_c, q05, q06, q07, q02, q04, ScL, q08, List.forall_mem_map, go_sem, Int.reduceBEq, Int.reduceLE, Int.reduceLT, Int.reduceNeg, Nat.reduceAdd, Nat.reduceEqDiff, Nat.reduceLT, Nat.reduceLeDiff, Nat.reduceMul, Nat.reduceSub, reduceCtorEq, ↓reduceIte]
   all_goals first | rfl | exact Nat.le_refl _
 rintro ⟨i, hi⟩
 simp only []
 refine q0c ?_
 refine VC.cond (by rfl) (by trivial) (fun hc => ?_) (fun hc => ?_)
 · have hlt : i < ns.length := by simp at hc; omega
   obtain ⟨x, hx⟩ : ∃ x, ns[i]? = some x := ⟨ns[i], List.getElem?_eq_getElem hlt⟩
   have hxp : (ns.map NT.cells)[i]? = some x.cells := by rw [List.getElem?_map, hx]; rfl
   have hil : (i : Int) < (ns.length : Int) := by omega
   have hwi : IntKind.i64.wrap ((i : Int) + 1) = (i : Int) + 1 := q0w (by omega) (by omega)
   have hOx := hO x
   rw [j9n] at hOx
   rw [NT.av_eq, q3w] at hOx
   rw [q3w] at hxp
   refine q0d (And.intro hxp hil) ?_
   refine q0e (hOx) ?_
   refine q0f (hwi) ?_
   refine .next ⟨i + 1, by omega⟩ ?_ (by simp only []; omega)
   refine q4q ?_
   exact cI (by omega)
 · refine q0c ?_
   refine retX Tryz.results15 ?_
   exact .c _
section
section
variable {P : Program} {N : Nat} {Q : Exit → ASt → Prop}
inductive GQ (Q : Exit → ASt → Prop) : Exit → ASt → Prop
 | normal {σ : ASt} (h : Q .normal σ) : GQ Q .normal σ
 | ret {σ : ASt} (h : Q .ret σ) : GQ Q .ret σ
 | exit {σ : ASt} {id : Nat} (h : Q (.exit id) σ) : GQ Q (.exit id) σ
theorem VC.scope {σ : ASt} {c : Code} (h : VC P N c σ (GQ Q)) : VC P N (.scope c) σ Q := ⟨fun C a W r => by
 refine wp_scope_straight (wp_mono (h.out C a W r) ?_)
 rintro e a' W' ⟨σ', hq, hr⟩
 cases hq with
 | normal h => exact ⟨σ', h, hr⟩
 | ret h => exact ⟨σ', h, hr⟩
 | exit h => exact ⟨σ', h, hr⟩⟩
theorem VC.label {σ : ASt} {l : Nat} (h : Q .normal σ) : VC P N (.label l) σ Q := ⟨fun C a W r => wp_label ⟨σ, h, r⟩⟩
instance p17 {c : Code} {σ : ASt} : Pass (VC P N (.scope c) σ Q) (VC P N c σ (GQ Q)) := ⟨VC.scope⟩
instance p18 {l : Nat} {σ : ASt} : Pass (VC P N (.label l) σ Q) (Q .normal σ) := ⟨VC.label⟩
instance p19 {σ : ASt} : Pass (GQ Q .normal σ) (Q .normal σ) := ⟨.normal⟩
instance p20 {σ : ASt} : Pass (GQ Q .ret σ) (Q .ret σ) := ⟨.ret⟩
instance p21 {σ : ASt} {id : Nat} : Pass (GQ Q (.exit id) σ) (Q (.exit id) σ) := ⟨.exit⟩
end
end

theorem z3w : ∀ L : List Blkd, zOk L (L.map fun _ => none)
 | [] => trivial
 | _ :: L => z3w L
theorem z0z {L : List Blkd} (j : Nat) : q0l (L.map fun _ => (none : Option Blkd)) j = none := by
 unfold q0l
 split
 · cases h : (L.map fun _ => (none : Option Blkd))[j - 1000000]? with
   | none => rfl
   | some x =>
     obtain ⟨B, _, rfl⟩ := List.mem_map.1 (List.mem_of_getElem? h)
     rfl
 · rfl
theorem ToldM.gone {P : Program} {f : FuncId} {args args' : List AV} {L : List Blkd} {y : AV} (hT : Told P f args' y) (hp : AV.pureL args' = true) (hy : y.pureB = true) (hL : ∀ B ∈ L, ∀ e ∈ B.elems, ∀ x ∈ e, ∃ p, x = .c p) (hlen : args'.length = args.length)
  (hv : ∀ (k : Nat) (x z : AV), args[k]? = some x → args'[k]? = some z → View (q0l (L.map some)) x z) : ToldM P f args L (L.map fun _ => none) y := by
 refine ⟨hT.1, z3w L, ⟨(q7z y hy).sc, fun b hb B hB => ?_⟩, fun W ro φ vs hro hgk hl hok => ?_⟩
 · obtain ⟨_, _, rfl⟩ := List.mem_map.1 hb
   simp at hB
 · have r : Rel (P := P) ⟨W, fun b => ∃ j B, q0l (L.map some) j = some B ∧ q0y (φ j) = some b, ro, fun _ => none, φ⟩ (fun _ => True) 0 (fun _ => .any) (q0l (L.map some)) ro φ ⟨#[], []⟩ W := by
    refine ⟨Keeps.refl _ W, rfl, rfl, fun k => .any _, hok.hp, hok.inj, fun j B b h1 h2 => ⟨hok.own j B b h1 h2, fun _ => ⟨j, B, h1, h2⟩⟩, hro, fun b h => h, fun b h => .inl h, fun k => .any, fun j B hB => ⟨trivial, fun e he x hx => ?_⟩, fun j n h => by simp at h, ⟨fun b hb => ⟨hro b hb, fun ⟨j, B, h1, h2⟩ => hok.own j B b h1 h2 hb⟩, hgk⟩⟩
    obtain ⟨_, h2⟩ := q4n hB
    rw [List.getElem?_map] at h2
    cases h3 : L[j - 1000000]? with
    | none => rw [h3] at h2; simp at h2
    | some C =>
      rw [h3] at h2
      obtain rfl := Option.some.inj (Option.some.inj h2)
      obtain ⟨p, rfl⟩ := hL _ (List.mem_of_getElem? h3) e he x hx
      exact .c
   have hl2 : RepL W (fun b => ro b ∨ ∃ j B, q0l (L.map some) j = some B ∧ q0y (φ j) = some b) φ0 h0 args' vs := by
    refine ⟨by rw [hl.1, hlen], fun j z v h1 h2 => ?_⟩
    have hj : j < args.length := by rw [← hlen]; exact (List.getElem?_eq_some_iff.1 h1).1
    have h3 := View.rep r (hv j _ z (List.getElem?_eq_getElem hj) h1) (hl.2 j _ v (List.getElem?_eq_getElem hj) h2)
    exact h3.pure (q5t args' hp z (List.mem_of_getElem? h1))
   have hro2 : ∀ b, (ro b ∨ ∃ j B, q0l (L.map some) j = some B ∧ q0y (φ j) = some b) → b < W.heap.size := by
    rintro b (hb | ⟨j, B, h1, h2⟩)
    · exact hro b hb
    · exact r.blk_lt h1 h2
   refine Calls.mono (hT.2 W _ vs hro2 (hgk.mono (fun _ _ => rfl) fun b hb => .inl hb) hl2) ?_
   rintro e W' ⟨v, ro', rfl, hb, h1, h2, h3, h4⟩
   refine ⟨v, ro', φ0, rfl, ⟨hb.os, hb.tape, hb.output, hb.size, fun k hk _ => hb.block k hk⟩, fun b hb' => h1 b (.inl hb'), fun b hb' => ⟨?_, (h2 b hb').2⟩, h3.pure h4, ⟨fun j B hB => ?_, fun j k B B' b hB => ?_, fun j B b hB => ?_⟩, fun j B' _ hB => ?_, fun j B b hB => ?_⟩
   · rcases (h2 b hb').1 with (h5 | h5) | h5
     · exact .inl h5
     · exact .inr (.inr h5)
     · exact .inr (.inl h5)
   all_goals (rw [z0z] at hB; simp at hB)
inductive PCo : PV → PV → Prop
 | same (p : PV) : PCo p p
 | nil (z : Nat) : PCo (.v (.slice none 0 0)) (.sl z [])
 | sl {z : Nat} {es es' : List (List PV)} (hl : es'.length = es.length) (hx : ∀ (i : Nat) (e e' : List PV), es[i]? = some e → es'[i]? = some e' → e'.length = e.length)
   (hy : ∀ (i : Nat) (e e' : List PV), es[i]? = some e → es'[i]? = some e' → ∀ (j : Nat) (p q : PV), e[j]? = some p → e'[j]? = some q → PCo p q) : PCo (.sl z es) (.sl z es')
theorem PCo.rep {W : World} {ro : Nat → Prop} {p q : PV} (h : PCo p q) : ∀ {v : Value}, PRep W ro p v → PRep W ro q v := by
 induction h with
 | same p => exact fun h => h
 | nil z => intro v hr; cases hr with | v => exact PRep.nil _ _ _
 | @sl z es es' hl hx hy ih =>
   intro v hr
   cases hr with
   | @sl _ _ a c vss hn hc hnil ha hvl hz hz' hxx =>
     rw [← hl]
     refine .sl (by omega) hc hnil (fun hne => ha fun e0 => hne ?_) (by omega) (fun i e he => ?_) hz' (fun i j e vs p v h1 h2 h3 h4 => ?_)
     · rw [e0] at hl
       exact List.eq_nil_of_length_eq_zero hl
     · have hi : i < es.length := by rw [← hl]; exact (List.getElem?_eq_some_iff.1 he).1
       rw [hx i _ e (List.getElem?_eq_getElem hi) he]
       exact hz i _ (List.getElem?_eq_getElem hi)
     · have hi : i < es.length := by rw [← hl]; exact (List.getElem?_eq_some_iff.1 h1).1
       have g1 := hx i _ e (List.getElem?_eq_getElem hi) h1
       have hj : j < es[i].length := by rw [← g1]; exact (List.getElem?_eq_some_iff.1 h3).1
       exact ih i _ e (List.getElem?_eq_getElem hi) h1 j _ p (List.getElem?_eq_getElem hj) h3 (hxx i j _ vs _ v (List.getElem?_eq_getElem hi) h2 (List.getElem?_eq_getElem hj) h4)
inductive PCoL : List PV → List PV → Prop
 | nil : PCoL [] []
 | cons {x y : PV} {l m : List PV} (e : PCo x y) (t : PCoL l m) : PCoL (x :: l) (y :: m)
theorem PCoL.at_ {l m : List PV} (h : PCoL l m) : m.length = l.length ∧ ∀ (k : Nat) (x y : PV), l[k]? = some x → m[k]? = some y → PCo x y := by
 induction h with
 | nil => exact ⟨rfl, by simp⟩
 | cons e t ih =>
   refine ⟨by simp [ih.1], fun k x y h1 h2 => ?_⟩
   cases k with
   | zero => simp at h1 h2; subst h1 h2; exact e
   | succ k => exact ih.2 k x y (by simpa using h1) (by simpa using h2)
inductive PCoE : List (List PV) → List (List PV) → Prop
 | nil : PCoE [] []
 | cons {x y : List PV} {l m : List (List PV)} (e : PCoL x y) (t : PCoE l m) : PCoE (x :: l) (y :: m)
theorem PCoE.at_ {l m : List (List PV)} (h : PCoE l m) : m.length = l.length ∧ ∀ (k : Nat) (x y : List PV), l[k]? = some x → m[k]? = some y → PCoL x y := by
 induction h with
 | nil => exact ⟨rfl, by simp⟩
 | cons e t ih =>
   refine ⟨by simp [ih.1], fun k x y h1 h2 => ?_⟩
   cases k with
   | zero => simp at h1 h2; subst h1 h2; exact e
   | succ k => exact ih.2 k x y (by simpa using h1) (by simpa using h2)
theorem PCo.rows {z : Nat} {es es' : List (List PV)} (h : PCoE es es') : PCo (.sl z es) (.sl z es') :=
 .sl h.at_.1 (fun i e e' h1 h2 => (h.at_.2 i e e' h1 h2).at_.1) fun i e e' h1 h2 j p q h3 h4 => (h.at_.2 i e e' h1 h2).at_.2 j p q h3 h4
theorem Told.m {P : Program} {f : FuncId} {args : List AV} {y : AV} (hT : Told P f args y) (hp : AV.pureL args = true) (hy : y.pureB = true) : ToldM P f args [] [] y :=
 ToldM.gone (L := []) hT hp hy (by simp) rfl fun k x z h1 h2 => by
  rw [h1] at h2
  obtain rfl := Option.some.inj h2
  exact .same _
theorem ToldM.told {P : Program} {f : FuncId} {args : List AV} {y : AV} (hT : ToldM P f args [] [] y) (hp : AV.pureL args = true) (hy : y.pureB = true) : Told P f args y := by
 have hn : ∀ j, q0l (([] : List Blkd).map some) j = none := fun j => z0z (L := []) j
 refine ⟨hT.enters, fun W ro vs hro hgk hl => ?_⟩
 refine Calls.mono (hT.out W ro φ0 vs hro hgk ⟨hl.1, fun j x v h1 h2 => (hl.2 j x v h1 h2).pure (q5t args hp x (List.mem_of_getElem? h1))⟩ ⟨fun j B h => by rw [hn] at h; simp at h, fun j k B B' b h => by rw [hn] at h; simp at h, fun j B b h => by rw [hn] at h; simp at h⟩) ?_
 rintro e W' ⟨v, ro', φ', rfl, h1, h2, h3, h4, _, _, _⟩
 refine ⟨v, ro', rfl, ⟨h1.os, h1.tape, h1.output, h1.size, fun k hk => h1.block k hk fun ⟨j, B, h5, _⟩ => by rw [hn] at h5; simp at h5⟩, h2, fun b hb => ⟨?_, (h3 b hb).2⟩, h4.pure (q7z y hy), q7z y hy⟩
 rcases (h3 b hb).1 with h5 | h5 | ⟨j, B, h5, _⟩
 · exact .inl h5
 · exact .inr h5
 · rw [hn] at h5; simp at h5
end
end Go.Proofs.YthkofkaocipomaaGreatDoor
