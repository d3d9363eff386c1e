/- Texts that lead to the law BuildNames, joined. -/
import Derived.Test.YthkofkaocipomaaGreatDoorPkBuildNamesA
import Derived.Test.YthkofkaocipomaaGreatDoorPkBuildNamesXShelf
import Derived.Test.YthkofkaocipomaaGreatDoorPkBuildNamesXAbB
import Derived.Test.YthkofkaocipomaaGreatDoorPkBuildNamesXAc
import Derived.Laws.CopyOwn
import Derived.Scope
namespace Go.Proofs.YthkofkaocipomaaGreatDoor
set_option maxRecDepth 100000
set_option maxHeartbeats 6400000
open Go.RowKit
set_option linter.unusedVariables false
set_option linter.unusedSimpArgs false

def q1b (s : List UInt8) : JT := .mk 4 0 s [] []
def listJ (l : List JT) : JT := .mk 5 0 [] [] l
def objJ (l : List (List UInt8 × JT)) : JT := .mk 6 0 [] (l.map Prod.fst) (l.map Prod.snd)
def q1c (s : List UInt8) : List UInt8 := s.take (dotI s).toNat
def q2e (s : List UInt8) : List UInt8 := s.drop (dotI s + 1).toNat
def q1g : List UInt8 := [110, 97, 109, 101]
def q0y : List UInt8 := [116, 121, 112, 101]
def q0u : List UInt8 := [110, 97, 109, 101, 115, 112, 97, 99, 101]
def q1p : List UInt8 := [97, 108, 105, 97, 115, 101, 115]
def q70 : List UInt8 := [102, 105, 101, 108, 100, 115]
def q1d : List UInt8 := [115, 105, 122, 101]
def aItems : List UInt8 := [105, 116, 101, 109, 115]
def aValues : List UInt8 := [118, 97, 108, 117, 101, 115]
theorem dotI_no {s : List UInt8} (h : 46 ∉ s) : dotI s = -1 := by
 rcases q4p s with ⟨_, h2⟩ | ⟨j, hj, h2, h3, h4⟩
 · exact h2
 · exact absurd (by rw [h3]; simp) h
theorem dotI_at {s : List UInt8} {j : Nat} (h : s[j]? = some 46) (hd : 46 ∉ s.drop (j + 1)) : dotI s = (j : Int) := by
 rcases q4p s with ⟨h1, _⟩ | ⟨i, hi, h2, h3, h4⟩
 · exact absurd (List.mem_of_getElem? h) h1
 · rw [h2]
   have hx : s[i]? = some 46 := by
    have e : s[i]? = (s.take i ++ 46 :: s.drop (i + 1))[i]? := congrArg (fun l => l[i]?) h3
    rw [e, List.getElem?_append_right (by simp; omega)]
    simp [Nat.min_eq_left (Nat.le_of_lt hi)]
   have key : ∀ a b : Nat, s[b]? = some 46 → 46 ∉ s.drop (a + 1) → ¬ a < b := fun a b hb ha hlt => by
    apply ha
    apply List.mem_of_getElem? (i := b - (a + 1))
    rw [List.getElem?_drop, show a + 1 + (b - (a + 1)) = b by omega]
    exact hb
   have k1 := key j i hx hd
   have k2 := key i j h h4
   omega
theorem j4a {s : List UInt8} (h : dotI s = -1) : q1c s = [] := by rw [q1c, h]; simp
theorem q6j {s : List UInt8} {j : Nat} (h : dotI s = (j : Int)) : q1c s = s.take j := by rw [q1c, h]; simp
theorem last_no {s : List UInt8} (h : dotI s = -1) : q2e s = s := by rw [q2e, h]; simp
theorem q68 {s : List UInt8} {j : Nat} (h : dotI s = (j : Int)) : q2e s = s.drop (j + 1) := by rw [q2e, h]; congr 1
theorem j4f : ∀ (xs : List JT) (n B : Nat), n ≤ B → (∀ x ∈ xs, 1 + q1n x ≤ B) → q2s n xs ≤ B
 | [], n, B, h, _ => by rw [q2s]; exact h
 | x :: xs, n, B, h, hx => by
   rw [q2s]
   exact j4f xs _ B (Nat.max_le.2 ⟨h, hx x (by simp)⟩) fun y hy => hx y (by simp [hy])

abbrev HN := Int × List UInt8
def q4v (n : NT) : HN := (n.kind, n.name)
def isH (name : List UInt8) (h : HN) : Bool := q20 h.1 && h.2 == name
def q4b (hs : List HN) (name : List UInt8) : Int := match hs.findIdx? (isH name) with | some i => (i : Int) | none => -1
def kindH (hs : List HN) (k : Nat) : Int := match hs[k]? with | some h => h.1 | none => 0
def q11 (sp name : List UInt8) : Option (List UInt8) :=
 if 0 ≤ dotI name then (if q2c name = true then some name else none)
 else if q45 name = false then none
 else if sp = [] then (if q2c name = true then some name else none)
 else if q2c (sp ++ 46 :: name) = true then some (sp ++ 46 :: name) else none
section
attribute [local go_sem] opx opE ev okx q3y bnd okO AV.get AV.okb cAV q7x q86 q85 j08 q51 q8z q8y st q71 q4o q75 q76 q74 binV binI binS q3d q37 q3z q38 unV q4j q2z q2f q0j q1f Blkd.len setE grown q0r q3j q2g q1z pv q3n q2l q29 AV.cellish AV.pureL AV.pureB q8v q8f AV.ren AV.renL renL_c Blkd.ren rho wrM renN q1q rhoE q27 q3f tyA_2 tyA_3 tyA_4 tyA_5 tyA_6 tyA_7 tyA_8 tyA_9 tyA_10 tyA_11 tyA_12 tyA_13 tyA_14 tyA_15 tyA_16 tyA_17 tyA_18 tyA_19 tyA_21 tyA_22 tyA_23 tyA_24 tyA_25 tyA_28 tyA_29 tyA_30 tyA_31 tyA_37 tyA_38 tyA_39 tyA_40 tyA_47 tyA_50 tyA_58 tyA_59 tyA_60 tyA_64 tyA_65 tyA_66 tyA_71 tyA_72 tyA_88 tyA_89 tyA_90 tyA_91 tyA_99 q9k q9l q9m q9n q9o q9p q9q q9r q9s q9t q9u q9v q9w q9x q9y q9z q90 q91 q92 q93 q94 q95 q96 q97 q98 q99 j0a j0b j0c j0d j0e j0f j0g j0h j0i j0j j0k j0l j0m j0n j0o j0p j0q j0r j0s j0t j0u j0v j0w j0x j0y j0z j00 j01 Option.map_some Option.map_none Option.getD_some Option.getD_none Option.bind_some Option.bind_none List.getElem?_cons_zero List.getElem?_cons_succ List.getElem?_nil List.getElem?_toArray List.length_cons List.length_nil List.length_map List.forall_mem_map List.map_cons List.map_nil List.drop_zero List.drop_succ_cons List.drop_nil List.take_zero List.take_succ_cons List.take_nil List.mem_cons List.not_mem_nil or_false forall_eq_or_imp forall_eq List.set_cons_zero List.set_cons_succ List.cons_append List.nil_append List.append_nil List.foldl_cons List.foldl_nil List.replicate_succ List.replicate_zero List.all_cons List.all_nil if_true if_false Bool.false_eq_true ne_eq not_false_eq_true not_true_eq_false true_and and_true and_self true_implies imp_self implies_true forall_const beq_self_eq_true Bool.and_true Bool.true_and Bool.and_false Bool.false_and Bool.or_true Bool.true_or Bool.or_false Bool.false_or Bool.not_true Bool.not_false Bool.not_eq_eq_eq_not q4w Value.oneCell' Int.toNat_natCast beq_true beq_false Bool.not_eq_true false_implies false_or true_or or_true Nat.zero_add Nat.add_zero decide_true decide_false Int.cast_ofNat_Int Int.toNat_zero Int.toNat_one eq_self

def wB (ns : List NT) (r : Int) (p : Nat) : Blkd := ⟨false, 123, 3, [[.c (.sl 10 (ns.map NT.cells)), .c (.v (.int .i64 r)), .c (.v (.int .i64 (p : Int)))]]⟩
theorem kids_len {n : NT} (h : n.sm 1000000) : (q2u n).length ≤ 1000000 := by
 unfold q2u
 have h1 := h.2.2.2.2.1
 have h2 := h.2.2.2.2.2.1
 split
 · simpa using h2
 · split
   · simp
   · split
     · exact h1
     · simp
theorem drop_at' {α : Type} {l : List α} {i : Nat} {x : α} (h : l[i]? = some x) : l.drop i = x :: l.drop (i + 1) := by
 obtain ⟨hlt, rfl⟩ := List.getElem?_eq_some_iff.1 h
 exact List.drop_eq_getElem_cons hlt
theorem walk_told (ns : List NT) (r : Int) (hl : ns.length ≤ 1000000) (hs : ∀ n ∈ ns, n.sm 1000000) : ∀ (d : Nat) (z : Int), z = 33 - (d : Int) → d ≤ 33 → ∀ p : Nat, p ≤ ns.length →
  ToldM Tryz.prog 91 [.ref 1000000 1 0 0, .c (.v (.int .i64 z))] [wB ns r p] [some (wB ns r (q15 ns d p).2)] (.c (.v (.bool (q15 ns d p).1))) := by
 intro d
 induction d with
 | zero =>
   intro z hz hd p hp
   have hz2 : decide (z > 32) = true := by simp; omega
   rw [q15]
   unfold wB
   refine VC.toldX ent_91 [] Tryz.func91 rfl Tryz.ntmps91 fun hb hbL => ?_
   clear hb hbL
   refine q0b (hz2) ?_
   refine VC.cond (by rfl) (by trivial) (fun hc => ?_) (fun hc => ?_)
   · refine q0a ?_
     refine retX Tryz.results91 ?_
     exact .c _
   · exact absurd hc (by simp)
 | succ d ih =>
   intro z hz hd p hp
   have hz2 : decide (z > 32) = false := by simp; omega
   have hwz : IntKind.i64.wrap (z + 1) = z + 1 := q1i (by omega) (by omega)
   have hI := ih (z + 1) (by omega) (by omega)
   clear ih
   obtain ⟨R, hR⟩ : ∃ R, R = q15 ns (d + 1) p := ⟨_, rfl⟩
   rw [← hR]
   rw [q15] at hR
   have hle := j4l ns d
   by_cases hlt : p < ns.length
   · obtain ⟨n, hn⟩ : ∃ n, ns[p]? = some n := ⟨ns[p], List.getElem?_eq_getElem hlt⟩
     have hnp : (ns.map NT.cells)[p]? = some n.cells := by rw [List.getElem?_map, hn]; rfl
     have hge : decide ((p : Int) ≥ (ns.length : Int)) = false := by simp; omega
     have hwp : IntKind.i64.wrap ((p : Int) + 1) = ((p + 1 : Nat) : Int) := by rw [q1i (by omega) (by omega)]; rfl
     have hns := hs n (List.mem_of_getElem? hn)
     have hK := kids_told n hns
     have hkl := kids_len hns
     rw [hn] at hR
     simp only [] at hR
     obtain ⟨ks, hks⟩ : ∃ ks, ks = q2u n := ⟨_, rfl⟩
     rw [← hks] at hK hR hkl
     simp only [NT.av_eq] at hK
     clear hks
     have hKi := hK
     clear hK
     unfold wB at hI ⊢
     refine VC.toldX ent_91 [] Tryz.func91 rfl Tryz.ntmps91 fun hb hbL => ?_
     clear hb hbL
     refine q0b (And.intro hge hz2) ?_
     refine VC.cond (by rfl) (by trivial) (fun hc => ?_) (fun hc => ?_)
     · exact absurd hc (by simp)
     refine q0b (And.intro hwp (And.intro hnp (And.intro @q69 (And.intro @q7t @q7u)))) ?_
     refine q35 (@q2a) (hKi) ?_
     refine q0a ?_
     clear hKi
     refine VC.loop (ι := {x : Nat × Nat // x.1 ≤ ks.length ∧ x.2 ≤ ns.length ∧ q2w ns (q15 ns d) (ks.drop x.1) x.2 = R})
      (fun q => [(0, .ref 1000000 1 0 0), (1, .c (.v (.int .i64 z))), (6, .fn (.func 91) [.ref 1000000 1 0 0] []), (42, .c (.sl 1 (ks.map iPV))), (43, .c (.v (.int .i64 (ks.length : Int)))), (44, .c (.v (.int .i64 (q.1.1 : Int))))])
      (fun q => [(1000000, ⟨false, 123, 3, [[.c (.sl 10 (ns.map NT.cells)), .c (.v (.int .i64 r)), .c (.v (.int .i64 (q.1.2 : Int)))]]⟩)]) 800 (fun q => ks.length - q.1.1) ⟨(0, p + 1), Nat.zero_le _, hlt, by rw [List.drop_zero]; exact hR.symm⟩ ?_ ?_
     · simp only [Weak, eq_self, q07, q01, sc_c, q03, q04, q05, q00, q02, ScL, q06, List.forall_mem_map, go_sem, Int.reduceBEq, Int.reduceLE, Int.reduceLT, Int.reduceNeg, Nat.reduceAdd, Nat.reduceEqDiff, Nat.reduceLT, Nat.reduceLeDiff, Nat.reduceMul, Nat.reduceSub, reduceCtorEq, ↓reduceIte]
       try simp
     clear hR
     rintro ⟨⟨i, q⟩, hi, hq, hR⟩
     simp only [] at hi hq hR ⊢
     refine q0a ?_
     refine VC.cond (by rfl) (by trivial) (fun hc2 => ?_) (fun hc2 => ?_)
     · have hil : i < ks.length := by simp at hc2; omega
       obtain ⟨x, hx⟩ : ∃ x, ks[i]? = some x := ⟨ks[i], List.getElem?_eq_getElem hil⟩
       have hxp : (ks.map iPV)[i]? = some (iPV x) := by rw [List.getElem?_map, hx]; rfl
       have hw : IntKind.i64.wrap ((i : Int) + 1) = (i : Int) + 1 := q1i (by omega) (by omega)
       rw [drop_at' hx, q2w] at hR
       by_cases hk : x = (q : Int)
       · rw [if_pos hk] at hR
         have hkq : (x == (q : Int)) = true := by simpa using hk
         have hIq := hI q hq
         have hqb := (hle q hq).2
         obtain ⟨M, hM⟩ : ∃ M, M = q15 ns d q := ⟨_, rfl⟩
         rw [← hM] at hIq hR hqb
         clear hI hM
         refine q0w (And.intro hxp (And.intro @q65 (And.intro hkq hwz))) ?_
         refine walkL [1000000] (hIq) ?_
         refine q0a ?_
         refine VC.cond (by rfl) (by trivial) (fun hc3 => ?_) (fun hc3 => ?_)
         · have hf : R = (false, M.2) := by
            rw [if_neg (by simpa using hc3)] at hR
            exact hR.symm
           subst hf
           refine q0a ?_
           refine retX Tryz.results91 ?_
           exact .c _
         · rw [if_pos (by simpa using hc3)] at hR
           refine q0b (hw) ?_
           refine .next ⟨(i + 1, M.2), by simp only []; omega, hqb, hR⟩ ?_ (by simp only []; omega)
           simp only [Weak, eq_self, q07, q01, sc_c, q03, q04, q05, q00, q02, ScL, q06, List.forall_mem_map, go_sem, Int.reduceBEq, Int.reduceLE, Int.reduceLT, Int.reduceNeg, Nat.reduceAdd, Nat.reduceEqDiff, Nat.reduceLT, Nat.reduceLeDiff, Nat.reduceMul, Nat.reduceSub, reduceCtorEq, ↓reduceIte]
           try exact cI (by omega)
       · rw [if_neg hk] at hR
         have hkq : (x == (q : Int)) = false := by simpa using hk
         by_cases hx0 : x < 0
         · have hf : R = (false, q) := by
            rw [if_pos (.inl hx0)] at hR
            exact hR.symm
           subst hf
           have e0 : decide (x < 0) = true := by simpa using hx0
           refine q0w (And.intro hxp (And.intro @q65 (And.intro hkq e0))) ?_
           refine retX Tryz.results91 ?_
           exact .c _
         have e0 : decide (x < 0) = false := by simpa using hx0
         by_cases hxq : x > (q : Int)
         · have hf : R = (false, q) := by
            rw [if_pos (.inr (.inl hxq))] at hR
            exact hR.symm
           subst hf
           have e1 : decide (x > (q : Int)) = true := by simpa using hxq
           refine q0w (And.intro hxp (And.intro @q65 (And.intro hkq (And.intro e0 e1)))) ?_
           refine retX Tryz.results91 ?_
           exact .c _
         have e1 : decide (x > (q : Int)) = false := by simpa using hxq
         obtain ⟨j, rfl⟩ : ∃ j : Nat, x = (j : Int) := ⟨x.toNat, by omega⟩
         have hj : j < ns.length := by omega
         obtain ⟨m, hm⟩ : ∃ m, ns[j]? = some m := ⟨ns[j], List.getElem?_eq_getElem hj⟩
         have hmp : (ns.map NT.cells)[j]? = some m.cells := by rw [List.getElem?_map, hm]; rfl
         have hka : q3r ns ((j : Int)).toNat = m.kind := by rw [Int.toNat_natCast, q3r, hm]
         rw [hka] at hR
         have hN := j28 m.kind
         refine q0w (And.intro hxp (And.intro @q65 (And.intro hkq (And.intro e0 (And.intro e1 (And.intro hmp @q41)))))) ?_
         refine q0k (hN) ?_
         refine q0a ?_
         refine VC.cond (by rfl) (by trivial) (fun hc3 => ?_) (fun hc3 => ?_)
         · have hf : R = (false, q) := by
            rw [if_pos (.inr (.inr (by simpa using hc3)))] at hR
            exact hR.symm
           subst hf
           refine q0a ?_
           refine retX Tryz.results91 ?_
           exact .c _
         · have hnn : q20 m.kind = true := by simpa using hc3
           have hno : ¬ ((j : Int) < 0 ∨ (j : Int) > (q : Int) ∨ q20 m.kind = false) := by
            rintro (h | h | h)
            · exact hx0 h
            · exact hxq h
            · rw [hnn] at h
              exact absurd h (by simp)
           rw [if_neg hno] at hR
           refine q0b (hw) ?_
           refine .next ⟨(i + 1, q), by simp only []; omega, hq, hR⟩ ?_ (by simp only []; omega)
           simp only [Weak, eq_self, q07, q01, sc_c, q03, q04, q05, q00, q02, ScL, q06, List.forall_mem_map, go_sem, Int.reduceBEq, Int.reduceLE, Int.reduceLT, Int.reduceNeg, Nat.reduceAdd, Nat.reduceEqDiff, Nat.reduceLT, Nat.reduceLeDiff, Nat.reduceMul, Nat.reduceSub, reduceCtorEq, ↓reduceIte]
           try exact cI (by omega)
     · have hie : i = ks.length := by simp at hc2; omega
       have hf : R = (true, q) := by
        rw [hie, List.drop_length, q2w] at hR
        exact hR.symm
       subst hf
       refine q0a ?_
       refine retX Tryz.results91 ?_
       exact .c _
   · have hR : R = (false, p) := by
      rw [hR, List.getElem?_eq_none (by omega)]
     subst hR
     have hge : decide ((p : Int) ≥ (ns.length : Int)) = true := by simp; omega
     unfold wB
     refine VC.toldX ent_91 [] Tryz.func91 rfl Tryz.ntmps91 fun hb hbL => ?_
     clear hb hbL
     refine q0b (hge) ?_
     refine VC.cond (by rfl) (by trivial) (fun hc => ?_) (fun hc => ?_)
     · refine q0a ?_
       refine retX Tryz.results91 ?_
       exact .c _
     · exact absurd hc (by simp)
theorem j5w (s : ST) (hl : s.nodes.length ≤ 1000000) (hs : ∀ n ∈ s.nodes, n.sm 1000000) : Told Tryz.prog 52 [s.av] (.c (.v (.bool (q3u s)))) := by
 have hW := walk_told s.nodes s.root hl hs 33 0 (by omega) (by omega) 0 (Nat.zero_le _)
 unfold wB at hW
 obtain ⟨V, hV⟩ : ∃ V, V = q3u s := ⟨_, rfl⟩
 rw [← hV]
 unfold q3u at hV
 obtain ⟨M, hM⟩ : ∃ M, M = q15 s.nodes 33 0 := ⟨_, rfl⟩
 rw [← hM] at hV hW
 clear hM
 have hv : V = (decide ((s.nodes.length : Int) > 0) && decide ((s.nodes.length : Int) ≤ 200) && (s.root == 0) && M.1 && ((M.2 : Int) == (s.nodes.length : Int))) := by
  have e1 : decide ((s.nodes.length : Int) > 0) = decide (0 < s.nodes.length) := by simp
  have e2 : decide ((s.nodes.length : Int) ≤ 200) = decide (s.nodes.length ≤ 200) := by simp; omega
  have e3 : (s.root == 0) = decide (s.root = 0) := by by_cases h : s.root = 0 <;> simp [h]
  have e4 : ((M.2 : Int) == (s.nodes.length : Int)) = decide (M.2 = s.nodes.length) := by
   by_cases h : M.2 = s.nodes.length
   · simp [h]
   · have : ¬ ((M.2 : Int) = (s.nodes.length : Int)) := by omega
     simp [h, this]
  rw [hV, e1, e2, e3, e4]
  simp only [Bool.and_assoc]
 clear hV
 replace hv := Lib.hid hv
 rw [ST.av_eq, q44]
 rw [show ((0 : Nat) : Int) = 0 from rfl] at hW
 by_cases c1 : 0 < s.nodes.length
 · have e1 : decide ((s.nodes.length : Int) > 0) = true := by simpa using c1
   by_cases c2 : s.nodes.length ≤ 200
   · have e2 : decide ((s.nodes.length : Int) ≤ 200) = true := by simp; omega
     by_cases c3 : s.root = 0
     · have e3 : (s.root == 0) = true := by simpa using c3
       have hv2 : V = (M.1 && ((M.2 : Int) == (s.nodes.length : Int))) := by rw [hv.out, e1, e2, e3]; simp
       clear hv
       replace hv2 := Lib.hid hv2
       refine VC.toldP q61 Tryz.func52 rfl Tryz.ntmps52 fun hb => ?_
       clear hb
       refine q0b (And.intro e1 (And.intro e2 e3)) ?_
       refine walkL [32] (hW) ?_
       refine q0a ?_
       refine retX Tryz.results52 ?_
       rw [hv2.out]
       exact .c _
     · have e3 : (s.root == 0) = false := by simpa using c3
       have hv2 : V = false := by rw [hv.out, e3]; simp
       clear hv
       subst hv2
       refine VC.toldP q61 Tryz.func52 rfl Tryz.ntmps52 fun hb => ?_
       clear hb
       refine q0b (And.intro e1 (And.intro e2 e3)) ?_
       refine retX Tryz.results52 ?_
       exact .c _
   · have e2 : decide ((s.nodes.length : Int) ≤ 200) = false := by simp; omega
     have hv2 : V = false := by rw [hv.out, e2]; simp
     clear hv
     subst hv2
     refine VC.toldP q61 Tryz.func52 rfl Tryz.ntmps52 fun hb => ?_
     clear hb
     refine q0b (And.intro e1 e2) ?_
     refine retX Tryz.results52 ?_
     exact .c _
 · have e1 : decide ((s.nodes.length : Int) > 0) = false := by
    rw [show s.nodes.length = 0 by omega]
    rfl
   have hv2 : V = false := by rw [hv.out, e1]; simp
   clear hv
   subst hv2
   refine VC.toldP q61 Tryz.func52 rfl Tryz.ntmps52 fun hb => ?_
   clear hb
   refine q0b (e1) ?_
   refine retX Tryz.results52 ?_
   exact .c _

theorem rA_rep (N : Nat) : rA iPV (List.replicate N 0) = List.replicate N [AV.c (.v (.int .i64 0))] := by
 simp [rA, iPV]
theorem j5u {s : ST} (h : q3u s = true) : ∀ n ∈ s.nodes, ∀ k ∈ q2u n, 0 ≤ k ∧ k < (s.nodes.length : Int) := by
 intro n hn k hk
 obtain ⟨i, hi⟩ := List.getElem?_of_mem hn
 have := (j5v h).1 i n (Nat.zero_le _) (List.getElem?_eq_some_iff.1 hi).1 hi k hk
 exact ⟨this.1, this.2.1⟩

structure EN where
 n : NT
 f : PV
 b : PV
def EN.cells (e : EN) : List PV := [.v (.int .i64 e.n.kind), .v (.string (str e.n.name)), .sl 1 (e.n.aliases.map sPV), e.f, .sl 1 (e.n.symbols.map sPV), .v (.bool e.n.has), .v (.string (str e.n.dflt)), .v (.int .i64 e.n.size), .v (.int .i64 e.n.items), e.b]
def EN.av (e : EN) : AV := .agg (e.cells.map .c)
theorem EN.av_eq (e : EN) : e.av = .agg (e.cells.map .c) := rfl
theorem j13 (e : EN) : e.cells = [.v (.int .i64 e.n.kind), .v (.string (str e.n.name)), .sl 1 (e.n.aliases.map sPV), e.f, .sl 1 (e.n.symbols.map sPV), .v (.bool e.n.has), .v (.string (str e.n.dflt)), .v (.int .i64 e.n.size), .v (.int .i64 e.n.items), e.b] := rfl
theorem q8t (e : EN) : e.cells.length = 10 := rfl
theorem q9f (e : EN) : e.cells.take 10 = e.cells := rfl
theorem q9g (e : EN) : (e.cells.map AV.c).take 10 = e.cells.map .c := rfl
def EN.of (n : NT) : EN := ⟨n, .sl 9 (n.fields.map FT.cells), .sl 1 (n.branches.map iPV)⟩
def isE (name : List UInt8) (e : EN) : Bool := isN name e.n
theorem findH_idx (es : List EN) (name : List UInt8) : q4b (es.map fun e => q4v e.n) name = idxP (isE name) es := by
 unfold q4b idxP
 rw [List.findIdx?_map]
 rfl
theorem ixfE_told {g : FuncId} {fs cs : List AV} (hp : AV.pureL fs = true) (hp' : AV.pureL cs = true) (l : List EN) (p : EN → Bool) (hk : ∀ x ∈ l, Told Tryz.prog g (fs ++ ([x.av] ++ cs)) (.c (.v (.bool (p x))))) :
  Told Tryz.prog 163 [.c (.sl 10 (l.map EN.cells)), .fn (.func g) fs cs] (.c (.v (.int .i64 (idxP p l)))) := by
 refine VC.told ent_163 Tryz.func163 rfl Tryz.ntmps163 (by simp) (by simp [AV.pureB, AV.pureL, hp, hp']) rfl fun hb => ?_
 simp only [List.mem_cons, List.not_mem_nil, or_false, forall_eq_or_imp, forall_eq, q3m, q3w, List.length_map] at hb
 have h1 := hb.1.1
 clear hb
 refine q0a ?_
 refine VC.loop (ι := {i : Nat // i ≤ l.length ∧ ∀ j x, j < i → l[j]? = some x → p x = false}) (fun i => [(0, .c (.sl 10 (l.map EN.cells))), (1, .fn (.func g) fs cs), (7, .c (.v (.int .i64 l.length))), (8, .c (.v (.int .i64 i.1)))]) (fun _ => []) 0 (fun i => l.length - i.1) ⟨0, Nat.zero_le _, by intro j x hj; omega⟩ ?_ ?_
 · simp only [q2o hp, q2o hp', Weak, eq_self, q07, q01, sc_c, q03, q04, q05, q00, q02, ScL, q06, List.forall_mem_map, go_sem, Int.reduceBEq, Int.reduceLE, Int.reduceLT, Int.reduceNeg, Nat.reduceAdd, Nat.reduceEqDiff, Nat.reduceLT, Nat.reduceLeDiff, Nat.reduceMul, Nat.reduceSub, reduceCtorEq, ↓reduceIte]
   all_goals rfl
 rintro ⟨i, hi, ht⟩
 refine q0a ?_
 refine VC.cond (by rfl) (by trivial) (fun hc => ?_) (fun hc => ?_)
 · simp only [decide_eq_true_eq] at hc
   obtain ⟨x, hx⟩ : ∃ x, l[i]? = some x := ⟨l[i]'(by omega), List.getElem?_eq_getElem _⟩
   have hw : IntKind.i64.wrap ((i : Int) + 1) = (i : Int) + 1 := q1i (by omega) (by omega)
   have hkx := hk x (List.mem_of_getElem? hx)
   (repeat (first | refine pass ?_ | refine VC.region (by rfl) (by rfl) ?_ | (refine AO.step fun K hK => ?_; simp only [List.getElem?_map, hx, EN.av, q8t, q9f, q9g, go_sem, Int.reduceBEq, Int.reduceLE, Int.reduceLT, Int.reduceNeg, Nat.reduceAdd, Nat.reduceEqDiff, Nat.reduceLT, Nat.reduceLeDiff, Nat.reduceMul, Nat.reduceSub, reduceCtorEq, ↓reduceIte]; (first | refine q10 ?_ | refine q0q ?_ | skip); (first | refine hK _ _ _ ?_ | refine ⟨by first | omega | exact ⟨_, rfl, rfl⟩ | exact fun _ => ⟨_, rfl, rfl⟩ | (intro h; simp only [List.getElem?_map, hx, EN.av, q8t, q9f, q9g, h, true_and]; omega) | (clear hK; intro h; simp_all <;> omega), hK _ _ _ ?_⟩); clear hK K) | refine VC.draw mixP (by rfl) (by rfl) ?_ | refine ⟨q13 (by kernel_rfl), ?_⟩ | refine BQ.other (by decide) ?_ | refine VC.seq ?_ | refine AO.nil ?_ | refine VC.block ?_))
   ((refine AO.step fun K hK => ?_; simp only [go_sem, Int.reduceBEq, Int.reduceLE, Int.reduceLT, Int.reduceNeg, Nat.reduceAdd, Nat.reduceEqDiff, Nat.reduceLT, Nat.reduceLeDiff, Nat.reduceMul, Nat.reduceSub, reduceCtorEq, ↓reduceIte, EN.av, q8t, q9f, q9g, hp, hp', q7g, q2a, List.append_assoc]; (first | refine q0q ?_ | skip)); refine .inl ⟨_, hkx, hK _ _ _ ?_⟩; clear hK K)
   refine q0a ?_
   refine VC.cond (by rfl) (by trivial) (fun hpx => ?_) (fun hpx => ?_)
   · have hr := q8p hx hpx ht
     refine q0a ?_
     refine retX Tryz.results163 ?_
     rw [hr]
     exact .c _
   · refine q0b (hw) ?_
     refine .next ⟨i + 1, by omega, fun j y hj hy => ?_⟩ ?_ (by simp only []; omega)
     · rcases Nat.lt_or_ge j i with h | h
       · exact ht j y h hy
       · obtain rfl : j = i := by omega
         rw [hx] at hy
         obtain rfl := Option.some.inj hy
         exact hpx
     simp only [q2o hp, q2o hp', Weak, eq_self, q07, q01, sc_c, q03, q04, q05, q00, q02, ScL, q06, List.forall_mem_map, go_sem, Int.reduceBEq, Int.reduceLE, Int.reduceLT, Int.reduceNeg, Nat.reduceAdd, Nat.reduceEqDiff, Nat.reduceLT, Nat.reduceLeDiff, Nat.reduceMul, Nat.reduceSub, reduceCtorEq, ↓reduceIte]
     exact cI (by omega)
 · simp only [decide_eq_false_iff_not] at hc
   obtain rfl : i = l.length := by omega
   have hr := q8q ht
   refine q0a ?_
   refine retX Tryz.results163 ?_
   rw [hr]
   exact .c _
theorem j5g (e : EN) (name : List UInt8) : Told Tryz.prog 164 [e.av, .pp [.v (.string (str name))]] (.c (.v (.bool (isE name e)))) := by
 have hN := j28 e.n.kind
 obtain ⟨V, hV⟩ : ∃ V, V = isE name e := ⟨_, rfl⟩
 rw [← hV]
 unfold isE isN at hV
 replace hV := Lib.hid hV
 rw [EN.av_eq, j13]
 refine VC.toldP ent_164 Tryz.func164 rfl Tryz.ntmps164 fun hb => ?_
 clear hb
 refine q0a ?_
 refine q0k (hN) ?_
 refine q0b (@q1u) ?_
 refine retX Tryz.results164 ?_
 rw [hV.out]
 exact .c _
theorem j5h (es : List EN) (r : Int) (name : List UInt8) : Told Tryz.prog 119 [.agg [.c (.sl 10 (es.map EN.cells)), .c (.v (.int .i64 r))], .c (.v (.string (str name)))] (.c (.v (.int .i64 (q4b (es.map fun e => q4v e.n) name)))) := by
 have hF := ixfE_told (g := 164) (fs := []) (cs := [.pp [.v (.string (str name))]]) rfl rfl es (isE name) fun n _ => j5g n name
 rw [← findH_idx] at hF
 generalize q4b (es.map fun e => q4v e.n) name = V at *
 refine VC.toldP ent_119 Tryz.func119 rfl Tryz.ntmps119 fun hb => ?_
 clear hb
 refine q0a ?_
 (refine AO.step fun K hK => ?_; simp only [go_sem, Int.reduceBEq, Int.reduceLE, Int.reduceLT, Int.reduceNeg, Nat.reduceAdd, Nat.reduceEqDiff, Nat.reduceLT, Nat.reduceLeDiff, Nat.reduceMul, Nat.reduceSub, reduceCtorEq, ↓reduceIte]; (first | refine q0q ?_ | skip))
 refine .inr (.inl ⟨.c (.v (.int .i64 V)), [.c (.sl 10 (es.map EN.cells)), .fn (.func 164) [] [.pp [.v (.string (str name))]]], [8], ⟨by rfl, rfl, fun k x z h5 h6 => ?_, rfl, hF⟩, hK _ _ _ ?_⟩)
 · match k with
   | 0 => obtain rfl := Option.some.inj h5; obtain rfl := Option.some.inj h6; exact .same _
   | 1 =>
     obtain rfl := Option.some.inj h5
     obtain rfl := Option.some.inj h6
     refine .fn rfl (by simp) rfl fun k x z h7 h8 => ?_
     match k with
     | 0 => obtain rfl := Option.some.inj h7; obtain rfl := Option.some.inj h8; exact View.ref (es := [.v (.string (str name))]) rfl rfl rfl rfl
     | k + 1 => simp at h7
   | k + 2 => simp at h5
 clear hK K
 refine q0a ?_
 refine retX Tryz.results119 ?_
 exact .c _

theorem j2k (s : ByteArray) (c : Int) : Told Tryz.prog 155 [.c (.v (.string s)), .c (.v (.int .u8 c))] (.c (.v (.int .i64 (Lib.indexByte s.data.toList c.toNat.toUInt8)))) :=
 j4g (xs := [.string s, .int .u8 c]) ent_155 rfl fun W => Tryz.strings_IndexByte s c W

theorem j5p (s : List UInt8) (hs : s.length ≤ 1000000000) : Told Tryz.prog 90 [.c (.v (.string (str s))), .c (.v (.int .u8 46))] (.c (.v (.int .i64 (dotI s)))) := by
 obtain ⟨V, hV⟩ : ∃ V, V = dotI s := ⟨_, rfl⟩
 rw [← hV]
 have hw0 : IntKind.i64.wrap ((s.length : Int) - 1) = (s.length : Int) - 1 := q1i (by omega) (by omega)
 refine VC.toldP ent_90 Tryz.func90 rfl Tryz.ntmps90 fun hb => ?_
 clear hb
 refine q0b (And.intro @q1t hw0) ?_
 refine VC.loop (ι := {x : Nat // x ≤ s.length ∧ 46 ∉ s.drop x}) (fun q => [(0, .c (.v (.string (str s)))), (1, .c (.v (.int .u8 46))), (5, .c (.v (.int .i64 ((q.1 : Int) - 1))))]) (fun _ => []) 800 (fun q => q.1) ⟨s.length, Nat.le_refl _, by simp⟩ ?_ ?_
 · exact weakZ
 rintro ⟨i, hi, hd⟩
 simp only []
 cases i with
 | zero =>
   have hf : V = -1 := by rw [hV]; exact dotI_no (by simpa using hd)
   subst hf
   rw [show ((0 : Nat) : Int) - 1 = -1 from rfl]
   refine q2i ?_
   refine retX Tryz.results90 ?_
   exact .c _
 | succ j =>
   obtain ⟨c, hx⟩ : ∃ c, s[j]? = some c := ⟨s[j], List.getElem?_eq_getElem (by omega)⟩
   rw [show ((j + 1 : Nat) : Int) - 1 = (j : Int) by omega]
   have hge : decide ((j : Int) ≥ 0) = true := by simp
   have hw : IntKind.i64.wrap ((j : Int) - 1) = (j : Int) - 1 := q1i (by omega) (by omega)
   refine q0w (And.intro @q1t (And.intro @q5z (And.intro hx hge))) ?_
   refine VC.cond (by rfl) (by trivial) (fun hc2 => ?_) (fun hc2 => ?_)
   · have hcd : c = 46 := by
      simp at hc2
      exact UInt8.toNat_inj.1 (by simp; omega)
     have hf : V = (j : Int) := by rw [hV]; exact dotI_at (by rw [hx, hcd]) hd
     subst hf
     refine q0a ?_
     refine retX Tryz.results90 ?_
     exact .c _
   · have hcd : c ≠ 46 := by
      rintro rfl
      simp at hc2
     refine q0b (hw) ?_
     refine .next ⟨j, by omega, ?_⟩ ?_ (by simp only []; omega)
     · rw [List.drop_eq_getElem_cons (by omega), (List.getElem?_eq_some_iff.1 hx).2]
       intro hm
       rcases List.mem_cons.1 hm with e | hm
       · exact hcd e.symm
       · exact hd hm
     exact weakZ
theorem j2x (s : List UInt8) (hs : s.length ≤ 1000000000) : Told Tryz.prog 51 [.c (.v (.string (str s))), .c (.v (.int .u8 46))] (.c (.v (.int .i64 (dotI s)))) := by
 have hL := j5p s hs
 refine VC.toldP ent_51 Tryz.func51 rfl Tryz.ntmps51 fun hb => ?_
 clear hb
 refine q0a ?_
 refine q0k (hL) ?_
 refine q0a ?_
 refine retX Tryz.results51 ?_
 exact .c _
theorem j4b (s : List UInt8) (hs : s.length ≤ 1000000000) : Told Tryz.prog 18 [.c (.v (.string (str s)))] (.c (.v (.string (str (q1c s))))) := by
 have hL := j2x s hs
 rcases q4p s with ⟨h1, h2⟩ | ⟨j, hj, h2, h3, h4⟩
 · rw [j4a h2]
   rw [h2] at hL
   have hm : max (-1 : Int) 0 = 0 := rfl
   have hx : (str s).extract 0 0 = str [] := by rw [q50]; rfl
   refine VC.toldP ent_18 Tryz.func18 rfl Tryz.ntmps18 fun hb => ?_
   clear hb
   refine q0a ?_
   refine q0k (hL) ?_
   refine q0b (And.intro hm (And.intro @q1t hx)) ?_
   refine retX Tryz.results18 ?_
   exact .c _
 · rw [q6j h2]
   rw [h2] at hL
   have hm : max (j : Int) 0 = (j : Int) := by omega
   have hx : (str s).extract 0 j = str (s.take j) := by rw [q50, List.drop_zero]
   refine VC.toldP ent_18 Tryz.func18 rfl Tryz.ntmps18 fun hb => ?_
   clear hb
   refine q0a ?_
   refine q0k (hL) ?_
   refine q0b (And.intro hm (And.intro @q1t hx)) ?_
   refine retX Tryz.results18 ?_
   exact .c _
theorem last_told (s : List UInt8) (hs : s.length ≤ 1000000000) : Told Tryz.prog 20 [.c (.v (.string (str s)))] (.c (.v (.string (str (q2e s))))) := by
 have hL := j2x s hs
 rcases q4p s with ⟨h1, h2⟩ | ⟨j, hj, h2, h3, h4⟩
 · rw [last_no h2]
   rw [h2] at hL
   have hw : IntKind.i64.wrap ((-1 : Int) + 1) = 0 := rfl
   have hx : (str s).extract 0 s.length = str s := by rw [q50, List.drop_zero, List.take_length]
   refine VC.toldP ent_20 Tryz.func20 rfl Tryz.ntmps20 fun hb => ?_
   clear hb
   refine q0a ?_
   refine q0k (hL) ?_
   refine q0b (And.intro hw (And.intro @q1t hx)) ?_
   refine retX Tryz.results20 ?_
   exact .c _
 · rw [q68 h2]
   rw [h2] at hL
   have hw : IntKind.i64.wrap ((j : Int) + 1) = (j : Int) + 1 := q1i (by omega) (by omega)
   have ht : ((j : Int) + 1).toNat = j + 1 := by omega
   have hx : (str s).extract (j + 1) s.length = str (s.drop (j + 1)) := by rw [q50, List.take_length]
   refine VC.toldP ent_20 Tryz.func20 rfl Tryz.ntmps20 fun hb => ?_
   clear hb
   refine q0a ?_
   refine q0k (hL) ?_
   refine q0b (And.intro hw (And.intro ht (And.intro @q1t hx))) ?_
   refine retX Tryz.results20 ?_
   exact .c _

theorem strJ (l m : List UInt8) : str l ++ str m = str (l ++ m) := ByteArray.mk_append_mk l m
def q4x (o : Option (List UInt8)) : AV := .tup [.c (.v (.string (str (o.getD [])))), .c (.v (.bool o.isSome))]
theorem dot_mem (s : List UInt8) : 0 ≤ dotI s ↔ 46 ∈ s := by
 rcases q4p s with ⟨h1, h2⟩ | ⟨j, hj, h2, h3, h4⟩
 · rw [h2]
   exact ⟨fun h => absurd h (by decide), fun h => absurd h h1⟩
 · rw [h2]
   exact ⟨fun _ => by rw [h3]; simp, fun _ => by omega⟩
theorem index_mem (s : List UInt8) : 0 ≤ Lib.indexByte s 46 ↔ 46 ∈ s := by
 induction s with
 | nil => simp [Lib.indexByte]
 | cons b l ih =>
   rw [Lib.indexByte]
   by_cases hb : b = 46
   · subst hb
     simp
   · rw [if_neg (by simpa using hb)]
     have : 46 ∈ b :: l ↔ 46 ∈ l := by simp [Ne.symm hb]
     rw [this, ← ih]
     have hge : Lib.indexByte l 46 = -1 ∨ 0 ≤ Lib.indexByte l 46 := by
      rcases q8r 46 l with ⟨h, _⟩ | ⟨i, _, h, _⟩
      · exact .inl h
      · exact .inr (by rw [h]; omega)
     rcases hge with h | h
     · rw [h]; decide
     · rw [if_neg (by simp; omega)]
       omega
theorem j2r (sp name : List UInt8) (h1 : sp.length ≤ 100000000) (h2 : name.length ≤ 100000000) : Told Tryz.prog 118 [.c (.v (.string (str sp))), .c (.v (.string (str name)))] (q4x (q11 sp name)) := by
 have hI := j2k (str name) 46
 rw [q5z, show (46 : Int).toNat.toUInt8 = 46 from rfl] at hI
 have hS := j58 name (by omega)
 have hF := q8o name (by omega)
 have hF2 := q8o (sp ++ 46 :: name) (by simp; omega)
 have hcat : str sp ++ (⟨#[46]⟩ : ByteArray) ++ str name = str (sp ++ 46 :: name) := by
  rw [show (⟨#[46]⟩ : ByteArray) = str [46] from rfl, strJ, strJ]
  simp
 have hz : (⟨#[46]⟩ : ByteArray).size = 1 := rfl
 have hi := index_mem name
 have hdm := dot_mem name
 have hJ : q11 sp name = if 0 ≤ Lib.indexByte name 46 then (if q2c name = true then some name else none)
   else if q45 name = false then none
   else if sp = [] then (if q2c name = true then some name else none)
   else if q2c (sp ++ 46 :: name) = true then some (sp ++ 46 :: name) else none := by
  unfold q11
  by_cases h : 46 ∈ name
  · rw [if_pos (hdm.2 h), if_pos (hi.2 h)]
  · rw [if_neg (fun h' => h (hdm.1 h')), if_neg (fun h' => h (hi.1 h'))]
 unfold q4x
 rw [hJ]
 clear hJ hi hdm
 obtain ⟨I, hIe⟩ : ∃ I, I = Lib.indexByte name 46 := ⟨_, rfl⟩
 rw [← hIe] at hI ⊢
 replace hIe := Lib.hid hIe
 refine VC.toldP ent_118 Tryz.func118 rfl Tryz.ntmps118 fun hb => ?_
 clear hb
 refine q0a ?_
 refine q0k (hI) ?_
 refine q0a ?_
 refine VC.cond (by rfl) (by trivial) (fun h1 => ?_) (fun h1 => ?_)
 · rw [if_pos (by simpa using h1)]
   refine q0a ?_
   refine q0k (hF) ?_
   refine q0a ?_
   refine VC.cond (by rfl) (by trivial) (fun h2 => ?_) (fun h2 => ?_)
   · rw [if_neg (by simpa using h2)]
     refine q0a ?_
     refine retX Tryz.results118 ?_
     exact ⟨.c _, .c _⟩
   · rw [if_pos (by simpa using h2)]
     refine q0a ?_
     refine retX Tryz.results118 ?_
     exact ⟨.c _, .c _⟩
 · rw [if_neg (by simpa using h1)]
   refine q0a ?_
   refine q0k (hS) ?_
   refine q0a ?_
   refine VC.cond (by rfl) (by trivial) (fun h2 => ?_) (fun h2 => ?_)
   · rw [if_pos (by simpa using h2)]
     refine q0a ?_
     refine retX Tryz.results118 ?_
     exact ⟨.c _, .c _⟩
   · rw [if_neg (by simpa using h2)]
     refine q0a ?_
     refine VC.cond (by rfl) (by trivial) (fun h3 => ?_) (fun h3 => ?_)
     · have hn : sp ≠ [] := by
        rintro rfl
        simp [q1u] at h3
       rw [if_neg hn]
       refine q0b (And.intro @q1t (And.intro hz hcat)) ?_
       refine q35 (hcat) (hF2) ?_
       refine q0a ?_
       refine VC.cond (by rfl) (by trivial) (fun h4 => ?_) (fun h4 => ?_)
       · rw [if_neg (by simpa using h4)]
         refine q0a ?_
         refine retX Tryz.results118 ?_
         exact ⟨.c _, .c _⟩
       · rw [if_pos (by simpa using h4)]
         refine q0a ?_
         refine retX Tryz.results118 ?_
         exact ⟨.c _, .c _⟩
     · have hn : sp = [] := by
        simpa [q1u] using h3
       rw [if_pos hn]
       refine q0a ?_
       refine q0k (hF) ?_
       refine q0a ?_
       refine VC.cond (by rfl) (by trivial) (fun h4 => ?_) (fun h4 => ?_)
       · rw [if_neg (by simpa using h4)]
         refine q0a ?_
         refine retX Tryz.results118 ?_
         exact ⟨.c _, .c _⟩
       · rw [if_pos (by simpa using h4)]
         refine q0a ?_
         refine retX Tryz.results118 ?_
         exact ⟨.c _, .c _⟩
theorem j5y (sp ar name : List UInt8) (given : Bool) (h1 : sp.length ≤ 100000000) (h2 : name.length ≤ 100000000) (h3 : ar.length ≤ 100000000) : Told Tryz.prog 168 [.c (.v (.string (str name))), .c (.v (.string (str sp))), .c (.v (.bool given)), .c (.v (.string (str ar)))] (q4x (q11 (if given = true then sp else ar) name)) := by
 have hJ := j2r (if given = true then sp else ar) name (by split <;> assumption) h2
 unfold q4x at hJ ⊢
 generalize q11 (if given = true then sp else ar) name = o at hJ ⊢
 cases given with
 | true =>
   rw [if_pos rfl] at hJ
   refine VC.toldP ent_168 Tryz.func168 rfl Tryz.ntmps168 fun hb => ?_
   clear hb
   refine q2i ?_
   refine q0k (hJ) ?_
   refine q0a ?_
   refine retX Tryz.results168 ?_
   exact ⟨.c _, .c _⟩
 | false =>
   rw [if_neg (by simp)] at hJ
   refine VC.toldP ent_168 Tryz.func168 rfl Tryz.ntmps168 fun hb => ?_
   clear hb
   refine q2i ?_
   refine q0k (hJ) ?_
   refine q0a ?_
   refine retX Tryz.results168 ?_
   exact ⟨.c _, .c _⟩

/-- The contract of a callee that takes the cells of a row for plain values, whichever they are. -/

def zJ : JT := .mk 0 0 [] [] []
theorem zJ_cells : zJ.cells = [.v (.int .i64 0), .v (.int .i64 0), .v (.string ⟨#[]⟩), .sl 5 [], .sl 1 []] := by simp [zJ, JT.cells, JT.cellsL]; rfl
theorem frz_zJ {K : Nat → Bool} (h : Nat → Option Blkd) : Frz K h (.agg [.c (.v (.int .i64 0)), .c (.v (.int .i64 0)), .c (.v (.string ⟨#[]⟩)), .c (.v (.slice none 0 0)), .c (.v (.slice none 0 0))]) (.agg (List.map AV.c zJ.cells)) := by
 rw [zJ_cells]
 exact Frz.aggL (.cons (.c _) (.cons (.c _) (.cons (.c _) (.cons (.nil 5) (.cons (.nil 1) .nil)))))
theorem q64 (t : JT) (key : List UInt8) : Told Tryz.prog 166 [t.av, .c (.v (.string (str key)))] (.tup [((jget t key).getD zJ).av, .c (.v (.bool (jget t key).isSome))]) := by
 cases t with
 | mk k n s ks xs =>
 refine VC.told ent_166 Tryz.func166 rfl Tryz.ntmps166 (by simp) (by rfl) (by simp [AV.pureB, AV.pureL, JT.av, q2a]) fun hb => ?_
 simp only [JT.av, q1e, List.map_cons, List.map_nil, abd_agg, q3m, pbd_v, q3w, List.mem_cons, List.not_mem_nil, or_false, forall_eq_or_imp, forall_eq, true_and, List.length_map] at hb ⊢
 have hx1 := hb.1.1.1
 clear hb
 have hil := idxS_le key ks
 obtain ⟨i, hi⟩ : ∃ i, i = idxS key ks := ⟨_, rfl⟩
 have hcall := j59 ks key
 have hg : jget (.mk k n s ks xs) key = if k = 6 ∧ 0 ≤ i then xs[i.toNat]? else none := by rw [hi]; rfl
 rw [hg]
 rw [← hi] at hcall hil
 clear hg hi
 refine q0a ?_
 (refine AO.step fun K hK => ?_; simp only [go_sem, Int.reduceBEq, Int.reduceLE, Int.reduceLT, Int.reduceNeg, Nat.reduceAdd, Nat.reduceEqDiff, Nat.reduceLT, Nat.reduceLeDiff, Nat.reduceMul, Nat.reduceSub, reduceCtorEq, ↓reduceIte]; (first | refine q0q ?_ | skip))
 refine .inl ⟨_, hcall, hK _ _ _ ?_⟩
 clear hK K
 refine q0a ?_
 refine VC.cond (by rfl) (by trivial) (fun hc => ?_) (fun hc => ?_)
 · have hn : (if k = 6 ∧ 0 ≤ i then xs[i.toNat]? else none) = none := by
    split
    · rename_i h
      rw [List.getElem?_eq_none]
      simp [h.1, Int.not_lt.2 h.2] at hc
      omega
    · rfl
   rw [hn]
   refine q0a ?_
   refine ⟨.inr rfl, ?_⟩
   rw [Tryz.results166]
   simp only [q0n, resV, go_sem, simprocAttr]
   exact ⟨frz_zJ _, .c _⟩
 · have hk : k = 6 ∧ 0 ≤ i ∧ i < xs.length := by
    simp at hc
    omega
   obtain ⟨rfl, h0, h1⟩ := hk
   obtain ⟨x, hx⟩ : ∃ x, xs[i.toNat]? = some x := ⟨xs[i.toNat], List.getElem?_eq_getElem (by omega)⟩
   rw [if_pos ⟨rfl, h0⟩, hx]
   (repeat (first | refine pass ?_ | refine VC.region (by rfl) (by rfl) ?_ | (refine AO.step fun K hK => ?_; simp only [List.getElem?_map, hx, q12, q2r, q2h, go_sem, Int.reduceBEq, Int.reduceLE, Int.reduceLT, Int.reduceNeg, Nat.reduceAdd, Nat.reduceEqDiff, Nat.reduceLT, Nat.reduceLeDiff, Nat.reduceMul, Nat.reduceSub, reduceCtorEq, ↓reduceIte]; (first | refine q10 ?_ | refine q0q ?_ | skip); (first | refine hK _ _ _ ?_ | refine ⟨by first | omega | exact ⟨_, rfl, rfl⟩ | exact fun _ => ⟨_, rfl, rfl⟩ | (intro h; simp only [List.getElem?_map, hx, q12, q2r, q2h, h, true_and]; omega) | (clear hK; intro h; simp_all <;> omega), hK _ _ _ ?_⟩); clear hK K) | refine VC.draw mixP (by rfl) (by rfl) ?_ | refine ⟨q13 (by kernel_rfl), ?_⟩ | refine BQ.other (by decide) ?_ | refine VC.seq ?_ | refine AO.nil ?_ | refine VC.block ?_))
   refine ⟨.inr rfl, ?_⟩
   rw [Tryz.results166]
   simp only [q12, q2h, q0n, resV, go_sem, simprocAttr]
   exact ⟨Frz.cs _ _, .c _⟩

def xW (n : Nat) (e : Int) : Blkd := ⟨false, 60, 3, [[.row 1000001 n, .c (.v (.int .i64 0)), .c (.v (.int .i64 e))]]⟩
def xN (es : List EN) : Blkd := ⟨true, 40, 10, rA EN.cells es⟩
def fl (e : Int) (b : Bool) (c : Int) : Int := if e ≠ 0 then e else if b = true then c else 0
theorem fl_no (e : Int) (b : Bool) (c : Int) (h : e ≠ 0) : fl e b c = e := by unfold fl; rw [if_pos h]
theorem fl_ok (b : Bool) (c : Int) : fl 0 b c = if b = true then c else 0 := by unfold fl; rw [if_neg (by simp)]
theorem q3c (es : List EN) (n : Nat) (hn : n = es.length) (e c : Int) (b : Bool) : ToldM Tryz.prog 36 [.ref 1000000 1 0 0, .c (.v (.bool b)), .c (.v (.int .i64 c))] [xW n e, xN es] [some (xW n (fl e b c)), some (xN es)] (.tup []) := by
 unfold xW xN
 cases b with
 | false =>
   have hf : fl e false c = e := by unfold fl; split; rfl; simp; omega
   rw [hf]
   refine VC.toldXF (And.intro @q0c (And.intro @q08 hn)) ent_36 [] Tryz.func36 rfl Tryz.ntmps36 fun hb hbL => ?_
   clear hb hbL
   refine q2i ?_
   exact retZF (@q0d) Tryz.results36
 | true =>
   by_cases he : e = 0
   · subst he
     rw [fl_ok, if_pos rfl]
     refine VC.toldXF (And.intro @q0c (And.intro @q08 hn)) ent_36 [] Tryz.func36 rfl Tryz.ntmps36 fun hb hbL => ?_
     clear hb hbL
     refine q2i ?_
     exact retZF (@q0d) Tryz.results36
   · rw [fl_no _ _ _ he]
     have hd : (e == 0) = false := by simpa using he
     refine VC.toldXF (And.intro @q0c (And.intro @q08 hn)) ent_36 [] Tryz.func36 rfl Tryz.ntmps36 fun hb hbL => ?_
     clear hb hbL
     refine q0w (hd) ?_
     exact retZF (@q0d) Tryz.results36
def q4r (hs : List HN) (e : Int) (n : NT) : List NT × Int × Int :=
 if fl e (decide (200 ≤ hs.length)) 3 ≠ 0 then ([], 0, fl e (decide (200 ≤ hs.length)) 3) else ([n], (hs.length : Int), 0)
theorem j42 (es : List EN) (hl : es.length ≤ 200) (e : Int) (m : EN) : ToldM Tryz.prog 117 [.ref 1000000 1 0 0, m.av] [xW es.length e, xN es]
  [some (xW (if fl e (decide (200 ≤ es.length)) 3 = 0 then es ++ [m] else es).length (fl e (decide (200 ≤ es.length)) 3)), some (xN (if fl e (decide (200 ≤ es.length)) 3 = 0 then es ++ [m] else es))] (.c (.v (.int .i64 (if fl e (decide (200 ≤ es.length)) 3 = 0 then (es.length : Int) else 0)))) := by
 have hF := q3c es es.length rfl e 3 (decide (200 ≤ es.length))
 have hge : decide ((es.length : Int) ≥ 200) = decide (200 ≤ es.length) := decide_eq_decide.2 (by omega)
 generalize fl e (decide (200 ≤ es.length)) 3 = E at hF ⊢
 unfold xW xN at hF ⊢
 rw [EN.av_eq, j13]
 by_cases hE : E = 0
 · subst hE
   simp only [if_true]
   have hw : IntKind.i64.wrap (((es.length + 1 : Nat) : Int) - 1) = (es.length : Int) := by rw [show ((es.length + 1 : Nat) : Int) - 1 = (es.length : Int) by omega]; exact q1i (by omega) (by omega)
   refine VC.toldXF (And.intro @q0c @q08) ent_117 [] Tryz.func117 rfl Tryz.ntmps117 fun hb hbL => ?_
   clear hb hbL
   refine q0b (And.intro @q0c hge) ?_
   refine q0p (And.intro @q0c (And.intro hge @q0d)) [1000000, 1000001] (hF) ?_
   have hone : rA EN.cells es ++ [[.c (.v (.int .i64 m.n.kind)), .c (.v (.string (str m.n.name))), .c (.sl 1 (m.n.aliases.map sPV)), .c m.f, .c (.sl 1 (m.n.symbols.map sPV)), .c (.v (.bool m.n.has)), .c (.v (.string (str m.n.dflt))), .c (.v (.int .i64 m.n.size)), .c (.v (.int .i64 m.n.items)), .c m.b]] = rA EN.cells (es ++ [m]) := rA_one EN.cells es m
   have hlen : (es ++ [m]).length = es.length + 1 := by simp
   refine q0w (And.intro @q0d (And.intro @q0c (And.intro hone (And.intro hlen hw)))) ?_
   refine q1r (And.intro @q0d (And.intro hone hlen)) Tryz.results117 ?_
   exact .c _
 · rw [if_neg hE, if_neg hE]
   have hd : (E != 0) = true := by simpa using hE
   refine VC.toldXF (And.intro @q0c @q08) ent_117 [] Tryz.func117 rfl Tryz.ntmps117 fun hb hbL => ?_
   clear hb hbL
   refine q0b (And.intro @q0c hge) ?_
   refine q0p (And.intro @q0c (And.intro hge @q0d)) [1000000, 1000001] (hF) ?_
   refine q0w (And.intro @q0c hd) ?_
   refine q1r (@q0d) Tryz.results117 ?_
   exact .c _
theorem q19 (j : JT) : j.cells = [.v (.int .i64 j.kd), .v (.int .i64 j.num), .v (.string (str j.txt)), .sl 5 (j.its.map JT.cells), .sl 1 (j.keys.map sPV)] := by
 cases j with
 | mk k n s ks xs =>
   rw [q1e]
   rfl
def gt (j : JT) (key : List UInt8) : JT := (jget j key).getD zJ
theorem q77 (es : List EN) (n : Nat) (hn : n = es.length) (e : Int) (j : JT) (key : List UInt8) : ToldM Tryz.prog 121 [.ref 1000000 1 0 0, j.av, .c (.v (.string (str key)))] [xW n e, xN es] [some (xW n (fl e ((gt j key).kd != 4) 30)), some (xN es)] (.c (.v (.string (str (gt j key).txt)))) := by
 have hG := q64 j key
 have hF := q3c es n hn e 30 ((gt j key).kd != 4)
 have hsome : (jget j key).isSome = false → (gt j key).kd != 4 := by
  intro h
  unfold gt
  cases hq : jget j key with
  | none => rfl
  | some y => rw [hq] at h; simp at h
 rw [show (jget j key).getD zJ = gt j key from rfl] at hG
 generalize fl e ((gt j key).kd != 4) 30 = E at hF ⊢
 generalize (jget j key).isSome = b at hG hsome
 generalize gt j key = x at *
 rw [JT.av_eq x, q19 x] at hG
 rw [JT.av_eq, q19] at hG ⊢
 generalize j.kd = j1 at *
 generalize j.num = j2 at *
 generalize j.txt = j3 at *
 generalize j.its = j4 at *
 generalize j.keys = j5 at *
 generalize x.kd = x1 at *
 generalize x.num = x2 at *
 generalize x.txt = x3 at *
 generalize x.its = x4 at *
 generalize x.keys = x5 at *
 unfold xW xN at hF ⊢
 cases b with
 | false =>
   rw [hsome rfl] at hF
   refine VC.toldXF (And.intro @q0c (And.intro @q08 hn)) ent_121 [] Tryz.func121 rfl Tryz.ntmps121 fun hb hbL => ?_
   clear hb hbL
   refine q0a ?_
   refine q0k (hG) ?_
   refine q0a ?_
   refine q0p (And.intro @q0c (And.intro @q0d hn)) [1000000, 1000001] (hF) ?_
   refine q0a ?_
   refine q1r (@q0d) Tryz.results121 ?_
   exact .c _
 | true =>
   refine VC.toldXF (And.intro @q0c (And.intro @q08 hn)) ent_121 [] Tryz.func121 rfl Tryz.ntmps121 fun hb hbL => ?_
   clear hb hbL
   refine q0a ?_
   refine q0k (hG) ?_
   refine q0a ?_
   refine q0p (And.intro @q0c (And.intro @q0d hn)) [1000000, 1000001] (hF) ?_
   refine q0a ?_
   refine q1r (@q0d) Tryz.results121 ?_
   exact .c _
theorem fl_fl (e : Int) (a b : Bool) (c : Int) (hc : c ≠ 0) : fl (fl e a c) b c = fl e (a || b) c := by
 unfold fl
 by_cases he : e = 0
 · subst he
   cases a <;> simp [hc]
 · simp [he]
def q7w (e : Int) (x : JT) : Int := fl (fl (fl e (x.kd != 5) 30) (x.its.any fun y => y.kd != 4) 30) (decide (40 < x.its.length)) 3
theorem txt_next {l : List JT} {i : Nat} {x : JT} (h : l[i]? = some x) : rA sPV ((l.take i).map JT.txt) ++ [[.c (.v (.string (str x.txt)))]] = rA sPV ((l.take (i + 1)).map JT.txt) := by
 rw [List.take_add_one, h]
 simp [rA, sPV]
theorem j46 (es : List EN) (n : Nat) (hn : n = es.length) (e : Int) (x : JT) (hl : x.its.length ≤ 1000000) : ToldM Tryz.prog 171 [.ref 1000000 1 0 0, x.av] [xW n e, xN es] [some (xW n (q7w e x)), some (xN es)] (.c (.sl 1 ((x.its.map JT.txt).map sPV))) := by
 have hF1 := q3c es n hn e 30 (x.kd != 5)
 unfold q7w
 generalize fl e (x.kd != 5) 30 = e1 at hF1 ⊢
 have hF3 := q3c es n hn (fl e1 (x.its.any fun y => y.kd != 4) 30) 3 (decide (40 < x.its.length))
 generalize fl (fl e1 (x.its.any fun y => y.kd != 4) 30) (decide (40 < x.its.length)) 3 = e3 at hF3 ⊢
 have hgt : decide ((x.its.length : Int) > 40) = decide (40 < x.its.length) := decide_eq_decide.2 (by omega)
 rw [JT.av_eq, q19]
 generalize x.kd = x1 at *
 generalize x.num = x2 at *
 generalize x.txt = x3 at *
 generalize x.its = l at *
 generalize x.keys = x5 at *
 unfold xW xN at hF1 hF3 ⊢
 refine VC.toldXF (And.intro @q0c (And.intro @q08 hn)) ent_171 [] Tryz.func171 rfl Tryz.ntmps171 fun hb hbL => ?_
 clear hb hbL
 refine q0a ?_
 refine q0p (And.intro @q0c (And.intro @q0d hn)) [1000000, 1000001] (hF1) ?_
 refine q0a ?_
 refine VC.nil 5 9 1 (by rfl) (by trivial) (by rfl) ?_
 refine VC.loop (ι := {i : Nat // i ≤ l.length}) (fun q => [(0, .ref 1000000 1 0 0), (5, .row 96 q.1), (14, .c (.sl 5 (l.map JT.cells))), (15, .c (.v (.int .i64 (l.length : Int)))), (16, .c (.v (.int .i64 (q.1 : Int))))])
  (fun q => [(1000000, ⟨false, 60, 3, [[.row 1000001 n, .c (.v (.int .i64 0)), .c (.v (.int .i64 (fl e1 ((l.take q.1).any fun y => y.kd != 4) 30)))]]⟩), (1000001, ⟨true, 40, 10, rA EN.cells es⟩), (96, ⟨true, 9, 1, rA sPV ((l.take q.1).map JT.txt)⟩)]) 800 (fun q => l.length - q.1) ⟨0, Nat.zero_le _⟩ ?_ ?_
 · have h0 : fl e1 (([] : List JT).any fun y => y.kd != 4) 30 = e1 := by
    unfold fl
    split
    · rfl
    · simp; omega
   simp only [q7j, q0c, q08, q0d, hn, List.take_zero, h0, Weak, eq_self, q07, q01, sc_c, q03, q04, q05, q00, q02, ScL, q06, List.forall_mem_map, go_sem, Int.reduceBEq, Int.reduceLE, Int.reduceLT, Int.reduceNeg, Nat.reduceAdd, Nat.reduceEqDiff, Nat.reduceLT, Nat.reduceLeDiff, Nat.reduceMul, Nat.reduceSub, reduceCtorEq, ↓reduceIte]
   exact Nat.le_refl _
 rintro ⟨i, hi⟩
 simp only []
 have hti : ((l.take i).map JT.txt).length = i := by simp; omega
 refine q0a ?_
 refine VC.cond (by rfl) (by trivial) (fun hc => ?_) (fun hc => ?_)
 · have hlt : i < l.length := by simp at hc; omega
   obtain ⟨y, hy⟩ : ∃ y, l[i]? = some y := ⟨l[i], List.getElem?_eq_getElem hlt⟩
   have hyp : (l.map JT.cells)[i]? = some [.v (.int .i64 y.kd), .v (.int .i64 y.num), .v (.string (str y.txt)), .sl 5 (y.its.map JT.cells), .sl 1 (y.keys.map sPV)] := by rw [List.getElem?_map, hy, ← q19]; rfl
   have hw : IntKind.i64.wrap ((i : Int) + 1) = (i : Int) + 1 := q1i (by omega) (by omega)
   have hap := txt_next hy
   have hti2 : ((l.take (i + 1)).map JT.txt).length = i + 1 := by simp; omega
   have hany : (l.take (i + 1)).any (fun y => y.kd != 4) = ((l.take i).any (fun y => y.kd != 4) || y.kd != 4) := by
    rw [List.take_add_one, hy]
    simp
   have hE := fl_fl e1 ((l.take i).any fun y => y.kd != 4) (y.kd != 4) 30 (by decide)
   rw [← hany] at hE
   have hF2 := q3c es n hn (fl e1 ((l.take i).any fun y => y.kd != 4) 30) 30 (y.kd != 4)
   unfold xW xN at hF2
   rw [hE] at hF2
   generalize fl e1 ((l.take i).any fun y => y.kd != 4) 30 = ei at *
   refine q0b (hyp) ?_
   refine q0p (And.intro @q0c (And.intro @q0d hn)) [1000000, 1000001] (hF2) ?_
   refine q0b (And.intro @q0c (And.intro hti (And.intro hap hw))) ?_
   refine .next ⟨i + 1, by omega⟩ ?_ (by simp only []; omega)
   refine q4l (And.intro @q0c (And.intro @q08 (And.intro @q0d (And.intro hti2 hn)))) ?_
   exact ⟨cI (by omega), Nat.le_refl _, Nat.le_refl _⟩
 · have hie : i = l.length := by simp at hc; omega
   subst hie
   rw [List.take_length] at *
   refine q0b (And.intro @q0c (And.intro hti hgt)) ?_
   refine q0p (And.intro @q0c (And.intro @q0d hn)) [1000000, 1000001] (hF3) ?_
   refine q0b (@q0c) ?_
   refine q1r (@q0d) Tryz.results171 ?_
   exact q4t (f := sPV) (T := 9) rfl (by rw [List.length_map]) rfl fun x _ => rfl

def q53 (j : JT) (v : List UInt8 → List UInt8) : List (List UInt8) := if (jget j q1p).isSome = true then ((gt j q1p).its.map JT.txt).map v else []
def q52 (e : Int) (j : JT) (ok : List UInt8 → Bool) : Int := if (jget j q1p).isSome = true then fl (q7w e (gt j q1p)) (((gt j q1p).its.map JT.txt).any fun s => !ok s) 31 else e
theorem al_next {l : List (List UInt8)} {v : List UInt8 → List UInt8} {i : Nat} {x : List UInt8} (h : l[i]? = some x) : rA sPV ((l.take i).map v) ++ [[.c (.v (.string (str (v x))))]] = rA sPV ((l.take (i + 1)).map v) := by
 rw [List.take_add_one, h]
 simp [rA, sPV]

theorem ToldM.co {P : Program} {f : FuncId} {args args' : List AV} {L : List Blkd} {L' : List (Option Blkd)} {y : AV} (hT : ToldM P f args' L L' y) (hc : CoL args args') : ToldM P f args L L' y :=
 ⟨hT.enters, hT.zs, hT.sc, fun W ro φ vs hro hgk hl hh => hT.out W ro φ vs hro hgk ⟨by rw [hl.1, hc.at_.1], fun j y v h1 h2 => by
  have hk : j < args.length := by have := (List.getElem?_eq_some_iff.1 h1).1; have := hc.at_.1; omega
  exact (hc.at_.2 j _ y (List.getElem?_eq_getElem hk) h1).rep (hl.2 j _ v (List.getElem?_eq_getElem hk) h2)⟩ hh⟩

def hsE (es : List EN) : List HN := es.map fun e => q4v e.n
theorem j41 (es : List EN) (hl : es.length ≤ 200) (e : Int) (n : NT) : ToldM Tryz.prog 117 [.ref 1000000 1 0 0, (EN.of n).av] [xW es.length e, xN es]
  [some (xW (es ++ (q4r (hsE es) e n).1.map EN.of).length (q4r (hsE es) e n).2.2), some (xN (es ++ (q4r (hsE es) e n).1.map EN.of))] (.c (.v (.int .i64 (q4r (hsE es) e n).2.1))) := by
 have h := j42 es hl e (EN.of n)
 unfold q4r hsE
 rw [List.length_map]
 by_cases hE : fl e (decide (200 ≤ es.length)) 3 = 0
 · simp only [if_pos hE] at h
   rw [hE] at h
   rw [if_neg (by simpa using hE)]
   exact h
 · simp only [if_neg hE] at h
   rw [if_pos hE]
   simpa using h

theorem q6g (n : NT) : (EN.of n).cells = [.v (.int .i64 n.kind), .v (.string (str n.name)), .sl 1 (n.aliases.map sPV), .sl 9 (n.fields.map FT.cells), .sl 1 (n.symbols.map sPV), .v (.bool n.has), .v (.string (str n.dflt)), .v (.int .i64 n.size), .v (.int .i64 n.items), .sl 1 (n.branches.map iPV)] := rfl
def q59 (e : Int) (j : JT) : Int := fl (fl e ((gt j q1d).kd != 3) 30) (decide ((gt j q1d).num < 0) || decide (1000 < (gt j q1d).num)) 3
def q4q (hs : List HN) (e : Int) (j : JT) (n : NT) : List NT × Int × Int := q4r hs (q59 e j) { n with size := (gt j q1d).num }
theorem j40 (es : List EN) (hl : es.length ≤ 200) (e : Int) (j : JT) (n : NT) : ToldM Tryz.prog 126 [.ref 1000000 1 0 0, j.av, (EN.of n).av] [xW es.length e, xN es]
  [some (xW (es ++ (q4q (hsE es) e j n).1.map EN.of).length (q4q (hsE es) e j n).2.2), some (xN (es ++ (q4q (hsE es) e j n).1.map EN.of))] (.c (.v (.int .i64 (q4q (hsE es) e j n).2.1))) := by
 have hG := q64 j q1d
 have hFr := j41 es hl (q59 e j) { n with size := (gt j q1d).num }
 have hF1 := q3c es es.length rfl e 30 ((gt j q1d).kd != 3)
 have hF2 := q3c es es.length rfl (fl e ((gt j q1d).kd != 3) 30) 3 (decide ((gt j q1d).num < 0) || decide (1000 < (gt j q1d).num))
 unfold q4q
 generalize q4r (hsE es) (q59 e j) { n with size := (gt j q1d).num } = V at *
 obtain ⟨V1, V2, V3⟩ := V
 simp only [] at hFr ⊢
 generalize es ++ V1.map EN.of = es' at *
 unfold q59 at hFr
 generalize fl (fl e ((gt j q1d).kd != 3) 30) (decide ((gt j q1d).num < 0) || decide (1000 < (gt j q1d).num)) 3 = e2 at *
 generalize fl e ((gt j q1d).kd != 3) 30 = e1 at *
 rw [show (jget j q1d).getD zJ = gt j q1d from rfl] at hG
 generalize (jget j q1d).isSome = b at hG
 generalize gt j q1d = x at *
 rw [EN.av_eq, q6g] at hFr ⊢
 simp only [] at hFr
 rw [JT.av_eq x, q19 x] at hG
 rw [JT.av_eq, q19] at hG ⊢
 generalize j.kd = j1 at *
 generalize j.num = j2 at *
 generalize j.txt = j3 at *
 generalize j.its = j4 at *
 generalize j.keys = j5 at *
 generalize x.kd = x1 at *
 generalize x.num = x2 at *
 generalize x.txt = x3 at *
 generalize x.its = x4 at *
 generalize x.keys = x5 at *
 rw [q1d, q2q [115, 105, 122, 101]] at hG
 have hgt : decide (x2 > 1000) = decide (1000 < x2) := rfl
 unfold xW xN at hF1 hF2 hFr ⊢
 rcases (show x2 < 0 ∨ 0 ≤ x2 by omega) with h0 | h0
 · have hd : decide (x2 < 0) = true := by simpa using h0
   rw [hd, Bool.true_or] at hF2
   refine VC.toldXF (And.intro @q0c @q08) ent_126 [] Tryz.func126 rfl Tryz.ntmps126 fun hb hbL => ?_
   clear hb hbL
   refine q0a ?_
   refine q0k (hG) ?_
   refine q0a ?_
   refine q0p (And.intro @q0c @q0d) [1000000, 1000001] (hF1) ?_
   refine q0b (And.intro @q0c (And.intro @q0d hd)) ?_
   refine q0p (And.intro @q0c (And.intro @q0d hd)) [1000000, 1000001] (hF2) ?_
   refine q0b (And.intro @q0c @q0d) ?_
   refine q0p (And.intro @q0c @q0d) [1000000, 1000001] (hFr) ?_
   refine q0b (And.intro @q0c @q0d) ?_
   refine q1r (@q0d) Tryz.results126 ?_
   exact .c _
 · have hd : decide (x2 < 0) = false := by simpa using h0
   rw [hd, Bool.false_or] at hF2
   refine VC.toldXF (And.intro @q0c @q08) ent_126 [] Tryz.func126 rfl Tryz.ntmps126 fun hb hbL => ?_
   clear hb hbL
   refine q0a ?_
   refine q0k (hG) ?_
   refine q0a ?_
   refine q0p (And.intro @q0c @q0d) [1000000, 1000001] (hF1) ?_
   refine q0b (And.intro @q0c (And.intro @q0d (And.intro hd hgt))) ?_
   refine q0p (And.intro @q0c (And.intro @q0d (And.intro hd hgt))) [1000000, 1000001] (hF2) ?_
   refine q0b (And.intro @q0c @q0d) ?_
   refine q0p (And.intro @q0c @q0d) [1000000, 1000001] (hFr) ?_
   refine q0b (And.intro @q0c @q0d) ?_
   refine q1r (@q0d) Tryz.results126 ?_
   exact .c _

theorem j5j (full s : List UInt8) (h1 : full.length ≤ 100000000) (h2 : s.length ≤ 100000000) : Told Tryz.prog 170 [.c (.v (.string (str s))), .pp [.v (.string (str full))]] (q4x (q11 (q1c full) s)) := by
 have hS := j4b full (by omega)
 have hJ := j2r (q1c full) s (by unfold q1c; simp; omega) h2
 unfold q4x at hJ ⊢
 generalize q1c full = sp at *
 generalize q11 sp s = o at *
 refine VC.toldP ent_170 Tryz.func170 rfl Tryz.ntmps170 fun hb => ?_
 clear hb
 refine q0a ?_
 refine q0k (hS) ?_
 refine q0a ?_
 refine q0k (hJ) ?_
 refine q0a ?_
 refine retX Tryz.results170 ?_
 exact ⟨.c _, .c _⟩

def xF (F : List UInt8) : Blkd := ⟨false, 9, 1, [[.c (.v (.string (str F)))]]⟩
theorem j4y (es : List EN) (n : Nat) (hn : n = es.length) (e : Int) (j : JT) (hl : (gt j q1p).its.length ≤ 1000000) {g : FuncId} (F : List UInt8) (v : List UInt8 → List UInt8) (ok : List UInt8 → Bool)
  (hk : ∀ x ∈ (gt j q1p).its, Told Tryz.prog g [.c (.v (.string (str x.txt))), .pp [.v (.string (str F))]] (.tup [.c (.v (.string (str (v x.txt)))), .c (.v (.bool (ok x.txt)))])) :
  ToldM Tryz.prog 169 [.ref 1000000 1 0 0, j.av, .fn (.func g) [] [.ref 1000002 1 0 0]] [xW n e, xN es, xF F] [some (xW n (q52 e j ok)), some (xN es), some (xF F)] (.c (.sl 1 ((q53 j v).map sPV))) := by
 have hG := q64 j q1p
 have hT := j46 es n hn e (gt j q1p) hl
 unfold q53 q52
 rw [show (jget j q1p).getD zJ = gt j q1p from rfl] at hG
 rw [show (gt j q1p).its.map JT.txt = (gt j q1p).its.map JT.txt from rfl] at hT
 generalize (jget j q1p).isSome = b at hG ⊢
 generalize q7w e (gt j q1p) = e1 at hT ⊢
 have hk' : ∀ s ∈ (gt j q1p).its.map JT.txt, Told Tryz.prog g [.c (.v (.string (str s))), .pp [.v (.string (str F))]] (.tup [.c (.v (.string (str (v s)))), .c (.v (.bool (ok s)))]) := fun s hs => by
  obtain ⟨x, hx, rfl⟩ := List.mem_map.1 hs
  exact hk x hx
 clear hk
 have hl' : ((gt j q1p).its.map JT.txt).length ≤ 1000000 := by rw [List.length_map]; exact hl
 clear hl
 generalize (gt j q1p).its.map JT.txt = l at *
 generalize gt j q1p = x at *
 rw [JT.av_eq x, q19 x] at hG hT
 rw [JT.av_eq, q19] at hG ⊢
 generalize j.kd = j1 at *
 generalize j.num = j2 at *
 generalize j.txt = j3 at *
 generalize j.its = j4 at *
 generalize j.keys = j5 at *
 generalize x.kd = x1 at *
 generalize x.num = x2 at *
 generalize x.txt = x3 at *
 generalize x.its = x4 at *
 generalize x.keys = x5 at *
 rw [q1p, q2q [97, 108, 105, 97, 115, 101, 115]] at hG
 unfold xW xN at hT ⊢
 unfold xF
 cases b with
 | false =>
   simp only [Bool.false_eq_true, if_false]
   refine VC.toldXF (And.intro @q0c (And.intro @q08 hn)) ent_169 [] Tryz.func169 rfl Tryz.ntmps169 fun hb hbL => ?_
   clear hb hbL
   refine q0a ?_
   refine q0k (hG) ?_
   refine q2i ?_
   refine q1r (@q0d) Tryz.results169 ?_
   exact .nil 1
 | true =>
   simp only [if_true]
   refine VC.toldXF (And.intro @q0c (And.intro @q08 hn)) ent_169 [] Tryz.func169 rfl Tryz.ntmps169 fun hb hbL => ?_
   clear hb hbL
   refine q0a ?_
   refine q0k (hG) ?_
   refine q2i ?_
   refine q0p (And.intro @q0c (And.intro @q0d hn)) [1000000, 1000001] (hT) ?_
   refine q0a ?_
   refine VC.nil 9 9 1 (by rfl) (by trivial) (by rfl) ?_
   refine VC.loop (ι := {i : Nat // i ≤ l.length}) (fun q => [(0, .ref 1000000 1 0 0), (2, .fn (.func g) [] [.ref 1000002 1 0 0]), (9, .row 144 q.1), (23, .c (.sl 1 (l.map sPV))), (24, .c (.v (.int .i64 (l.length : Int)))), (25, .c (.v (.int .i64 (q.1 : Int))))])
    (fun q => [(1000000, ⟨false, 60, 3, [[.row 1000001 n, .c (.v (.int .i64 0)), .c (.v (.int .i64 (fl e1 ((l.take q.1).any fun s => !ok s) 31)))]]⟩), (1000001, ⟨true, 40, 10, rA EN.cells es⟩), (1000002, ⟨false, 9, 1, [[.c (.v (.string (str F)))]]⟩), (144, ⟨true, 9, 1, rA sPV ((l.take q.1).map v)⟩)]) 800 (fun q => l.length - q.1) ⟨0, Nat.zero_le _⟩ ?_ ?_
   · have h0 : fl e1 (([] : List (List UInt8)).any fun s => !ok s) 31 = e1 := by
      unfold fl
      split
      · rfl
      · simp; omega
     simp only [q7j, q0c, q08, q0d, hn, List.take_zero, h0, Weak, eq_self, q07, q01, sc_c, q03, q04, q05, q00, q02, ScL, q06, List.forall_mem_map, go_sem, Int.reduceBEq, Int.reduceLE, Int.reduceLT, Int.reduceNeg, Nat.reduceAdd, Nat.reduceEqDiff, Nat.reduceLT, Nat.reduceLeDiff, Nat.reduceMul, Nat.reduceSub, reduceCtorEq, ↓reduceIte]
     exact Nat.le_refl _
   rintro ⟨i, hi⟩
   simp only []
   have hti : ((l.take i).map v).length = i := by simp; omega
   refine q0a ?_
   refine VC.cond (by rfl) (by trivial) (fun hc => ?_) (fun hc => ?_)
   · have hlt : i < l.length := by simp at hc; omega
     obtain ⟨y, hy⟩ : ∃ y, l[i]? = some y := ⟨l[i], List.getElem?_eq_getElem hlt⟩
     have hyp : (l.map sPV)[i]? = some [.v (.string (str y))] := by rw [List.getElem?_map, hy]; rfl
     have hw : IntKind.i64.wrap ((i : Int) + 1) = (i : Int) + 1 := q1i (by omega) (by omega)
     have hap := al_next (v := v) hy
     have hti2 : ((l.take (i + 1)).map v).length = i + 1 := by simp; omega
     have hany : (l.take (i + 1)).any (fun s => !ok s) = ((l.take i).any (fun s => !ok s) || !ok y) := by
      rw [List.take_add_one, hy]
      simp
     have hE := fl_fl e1 ((l.take i).any fun s => !ok s) (!ok y) 31 (by decide)
     rw [← hany] at hE
     have hF2 := q3c es n hn (fl e1 ((l.take i).any fun s => !ok s) 31) 31 (!ok y)
     unfold xW xN at hF2
     rw [hE] at hF2
     generalize fl e1 ((l.take i).any fun s => !ok s) 31 = ei at *
     have hky := hk' y (List.mem_of_getElem? hy)
     refine q0b (hyp) ?_
     (refine AO.step fun K hK => ?_; simp only [go_sem, Int.reduceBEq, Int.reduceLE, Int.reduceLT, Int.reduceNeg, Nat.reduceAdd, Nat.reduceEqDiff, Nat.reduceLT, Nat.reduceLeDiff, Nat.reduceMul, Nat.reduceSub, reduceCtorEq, ↓reduceIte]; (first | refine q0q ?_ | skip))
     refine .inr (.inl ⟨_, [.c (.v (.string (str y))), .pp [.v (.string (str F))]], [1000002], ⟨by rfl, by rfl, fun k x z h5 h6 => ?_, by rfl, hky⟩, hK _ _ _ ?_⟩)
     · match k with
       | 0 => obtain rfl := Option.some.inj h5; obtain rfl := Option.some.inj h6; exact .same _
       | 1 => obtain rfl := Option.some.inj h5; obtain rfl := Option.some.inj h6; exact View.ref (es := [.v (.string (str F))]) rfl rfl rfl rfl
       | k + 2 => simp at h5
     clear hK K
     refine q0a ?_
     refine q0p (And.intro @q0c (And.intro @q0d hn)) [1000000, 1000001] (hF2) ?_
     refine q0b (And.intro @q0c (And.intro hti (And.intro hap hw))) ?_
     refine .next ⟨i + 1, by omega⟩ ?_ (by simp only []; omega)
     refine q4l (And.intro @q0c (And.intro @q08 (And.intro @q0d (And.intro hti2 hn)))) ?_
     exact ⟨cI (by omega), Nat.le_refl _, Nat.le_refl _⟩
   · have hie : i = l.length := by simp at hc; omega
     subst hie
     rw [List.take_length] at *
     refine q0b (And.intro @q0c hti) ?_
     refine q1r (@q0d) Tryz.results169 ?_
     exact q4t (f := sPV) (T := 9) rfl (by rw [List.length_map]) rfl fun x _ => rfl
section

section
variable {P : Program} {ops : Array Oper} {o : Oper} {ℓ : Nat} {t : Nat → AV} {h : Nat → Option Blkd}
theorem AO.stepJw {l : List Oper} {n : Nat} {fs : Foot} {R : (Nat → AV) → (Nat → Option Blkd) → Foot → Prop} {v : AV} {rd : List Nat} {wr : List (Nat × Option Blkd)} (hgd : o.guard = none) (hJ : J P o n t h ⟨v, rd, wr⟩) (H : AO P ops l (n + 8) (putd o.dst v t) (wrs wr h) (fs ++ [(rd, wr.map (·.1))]) R) : AO P ops (o :: l) n t h fs R :=
 ⟨_, JG.plain hgd hJ, H.out⟩
end
end

def wrK (ρ : Nat → Nat) : Nat → List Bool → List (Option Blkd) → List (Nat × Option Blkd)
 | i, true :: m, _ :: l => wrK ρ (i + 1) m l
 | i, false :: m, b :: l => (ρ i, b.map (Blkd.ren ρ)) :: wrK ρ (i + 1) m l
 | i, [], l => wrM ρ i l
 | _, _, [] => []
def q32 : List Bool → List Blkd → List (Option Blkd) → Prop
 | [], _, _ => True
 | true :: m, B :: L, b :: L' => b = some B ∧ q32 m L L'
 | false :: m, _ :: L, _ :: L' => q32 m L L'
 | _ :: _, _, _ => False
theorem upd_idK {α : Type} {f : Nat → α} {k : Nat} {x : α} (h : f k = x) : upd f k x = f := by
 funext m
 unfold upd
 split
 · rename_i hm; rw [hm, h]
 · rfl
theorem wrK_is {ρ : Nat → Nat} : ∀ (m : List Bool) (L : List Blkd) (L' : List (Option Blkd)) (ks : List Nat) (i : Nat) (h : Nat → Option Blkd), q32 m L L' → q1q h ρ ks L → ks.Nodup → (∀ p k, ks[p]? = some k → ρ (i + p) = k) → wrs (wrK ρ i m L') h = wrs (wrM ρ i L') h
 | [], _, L', _, i, h, _, _, _, _ => by cases L' <;> rfl
 | _ :: _, [], _, _, _, _, hs, _, _, _ => by simp [q32] at hs
 | _ :: _, _ :: _, [], _, _, _, hs, _, _, _ => by simp [q32] at hs
 | _ :: _, _ :: _, _ :: _, [], _, _, _, hl, _, _ => by simp [q1q] at hl
 | b :: m, B :: L, c :: L', k :: ks, i, h, hs, hl, hn, hp => by
   have h0 : ρ i = k := hp 0 k rfl
   have hp' : ∀ p k', ks[p]? = some k' → ρ (i + 1 + p) = k' := fun p k' hk => by
    have := hp (p + 1) k' (by simpa using hk)
    rwa [show i + (p + 1) = i + 1 + p from by omega] at this
   obtain ⟨hn1, hn2⟩ := List.nodup_cons.1 hn
   have hl2 : ∀ x, q1q (upd h k x) ρ ks L := fun x => q6e ks L (fun j hj => q0t _ _ fun e => hn1 (e ▸ hj)) hl.2
   cases b with
   | true =>
     obtain ⟨rfl, hs⟩ := hs
     show wrs (wrK ρ (i + 1) m L') h = wrs ((ρ i, some (B.ren ρ)) :: wrM ρ (i + 1) L') h
     rw [q51, h0, upd_idK hl.1]
     exact wrK_is m L L' ks (i + 1) h hs hl.2 hn2 hp'
   | false =>
     show wrs ((ρ i, c.map (Blkd.ren ρ)) :: wrK ρ (i + 1) m L') h = wrs ((ρ i, c.map (Blkd.ren ρ)) :: wrM ρ (i + 1) L') h
     rw [q51, q51, h0]
     exact wrK_is m L L' ks (i + 1) _ hs (hl2 _) hn2 hp'
theorem q7y {P : Program} {o : Oper} {ℓ : Nat} {t : Nat → AV} {h : Nat → Option Blkd} (c : Operand) (f : FuncId) (fs cs args : List AV) (xs : Array Operand) (tys : Array TypeId) (y : AV) (ks : List Nat) (L : List Blkd) (L' : List (Option Blkd)) (m : List Bool) (ho : o.op = .call { callee := .value c, args := xs, argTypes := tys }) (hc : okx t c) (ec : ev t c = .fn (.func f) fs cs)
  (hx : ∀ x ∈ xs, okx t x) (hL : q1q h (rho ks ℓ) ks L) (hnd : ks.Nodup) (hn8 : L'.length ≤ L.length + 8) (ha : fs ++ xs.toList.map (ev t) ++ cs = AV.renL (rho ks ℓ) args) (hs : q32 m L L') (hT : ToldM P f args L L' y) :
  J P o ℓ t h ⟨y.ren (rho ks ℓ), ks, wrK (rho ks ℓ) 1000000 m L'⟩ := by
 intro C used N t1 h1 ro φ a W ht hh hu hd r K Q hK
 refine J_callM c f fs cs args xs tys y ks L L' ho hc ec hx hL hnd hn8 ha hT C used N t1 h1 ro φ a W ht hh hu hd r K Q fun a' W' ro' φ' r' => hK a' W' ro' φ' ?_
 show Rel C _ N _ (wrs (wrK (rho ks ℓ) 1000000 m L') h1) ro' φ' a' W'
 rw [wrK_is m L L' ks 1000000 h1 hs (q6e ks L (fun k hk => hh k hk) hL) hnd fun p k hk => q6i hk]
 exact r'

def q1k (j : JT) (a : List UInt8) : Option (List UInt8) := q11 (if (jget j q0u).isSome = true then (gt j q0u).txt else a) (gt j q1g).txt
def q4u (j : JT) (k : Int) (a : List UInt8) : NT := ⟨k, (q1k j a).getD [], q53 j fun s => (q11 (q1c ((q1k j a).getD [])) s).getD [], [], [], false, [], 0, 0, []⟩
def q3p (j : JT) : Int := if (jget j q0u).isSome = true then fl (fl 0 ((gt j q1g).kd != 4) 30) ((gt j q0u).kd != 4) 30 else fl 0 ((gt j q1g).kd != 4) 30
def q5n (hs : List HN) (j : JT) (a : List UInt8) : Int := fl (fl (q3p j) (!(q1k j a).isSome || (q0x ((q1k j a).getD []) : Int) != 0) 31) (decide (0 ≤ q4b hs ((q1k j a).getD []))) 32
def headE (hs : List HN) (j : JT) (a : List UInt8) : Int := q52 (q5n hs j a) j fun s => (q11 (q1c ((q1k j a).getD [])) s).isSome
theorem j43 (es : List EN) (hl : es.length ≤ 200) (j : JT) (k : Int) (a : List UInt8) (ha : a.length ≤ 100000000) (hx1 : (gt j q1g).txt.length ≤ 100000000) (hx2 : (gt j q0u).txt.length ≤ 100000000) (hx3 : (gt j q1p).its.length ≤ 1000000) (hx4 : ∀ x ∈ (gt j q1p).its, x.txt.length ≤ 100000000) (hfl : ((q1k j a).getD []).length ≤ 100000000) :
  ToldM Tryz.prog 124 [.ref 1000000 1 0 0, j.av, .c (.v (.int .i64 k)), .c (.v (.string (str a)))] [xW es.length 0, xN es]
  [some (xW es.length (headE (hsE es) j a)), some (xN es)] (EN.of (q4u j k a)).av := by
 have hT1 := q77 es es.length rfl 0 j q1g
 have hT2 := q77 es es.length rfl (fl 0 ((gt j q1g).kd != 4) 30) j q0u
 have hG := q64 j q0u
 have hR := j5y (if (jget j q0u).isSome = true then (gt j q0u).txt else []) a (gt j q1g).txt (jget j q0u).isSome (by split; exact hx2; simp) hx1 ha
 have hRe : (if (jget j q0u).isSome = true then (if (jget j q0u).isSome = true then (gt j q0u).txt else []) else a) = (if (jget j q0u).isSome = true then (gt j q0u).txt else a) := by split <;> rfl
 rw [hRe, show q11 (if (jget j q0u).isSome = true then (gt j q0u).txt else a) (gt j q1g).txt = q1k j a from rfl] at hR
 have hK := j2v ((q1k j a).getD [])
 have hF1 := q3c es es.length rfl (q3p j) 31 (!(q1k j a).isSome || (q0x ((q1k j a).getD []) : Int) != 0)
 have hFi := j5h es 0 ((q1k j a).getD [])
 rw [show (es.map fun e => q4v e.n) = hsE es from rfl] at hFi
 have hF2 := q3c es es.length rfl (fl (q3p j) (!(q1k j a).isSome || (q0x ((q1k j a).getD []) : Int) != 0) 31) 32 (decide (0 ≤ q4b (hsE es) ((q1k j a).getD [])))
 have hA := j4y es es.length rfl (q5n (hsE es) j a) j hx3 ((q1k j a).getD []) (fun s => (q11 (q1c ((q1k j a).getD [])) s).getD []) (fun s => (q11 (q1c ((q1k j a).getD [])) s).isSome) fun x hx => j5j _ x.txt hfl (hx4 x hx)
 rw [EN.av_eq, q6g]
 unfold q4u headE
 rw [show fl (fl (q3p j) (!(q1k j a).isSome || (q0x ((q1k j a).getD []) : Int) != 0) 31) (decide (0 ≤ q4b (hsE es) ((q1k j a).getD []))) 32 = q5n (hsE es) j a from rfl] at hF2
 generalize q52 (q5n (hsE es) j a) j (fun s => (q11 (q1c ((q1k j a).getD [])) s).isSome) = e5 at *
 generalize q53 j (fun s => (q11 (q1c ((q1k j a).getD [])) s).getD []) = al at *
 have hE1 : q3p j = if (jget j q0u).isSome = true then fl (fl 0 ((gt j q1g).kd != 4) 30) ((gt j q0u).kd != 4) 30 else fl 0 ((gt j q1g).kd != 4) 30 := rfl
 generalize fl (fl 0 ((gt j q1g).kd != 4) 30) ((gt j q0u).kd != 4) 30 = t2 at *
 generalize fl 0 ((gt j q1g).kd != 4) 30 = t1 at *
 generalize q5n (hsE es) j a = e4 at *
 generalize q3p j = e2 at *
 unfold q4x at hR
 generalize q4b (hsE es) ((q1k j a).getD []) = fi at *
 generalize (q1k j a).getD [] = full at *
 generalize (q1k j a).isSome = ok at *
 rw [show (jget j q0u).getD zJ = gt j q0u from rfl] at hG
 generalize (jget j q0u).isSome = b at *
 generalize (gt j q1g).txt = nm at *
 generalize (gt j q0u).txt = sp at *
 generalize gt j q0u = x at *
 clear hRe hx3 hx4 hfl
 rw [JT.av_eq, q19] at hT1 hT2 hG hA ⊢
 rw [JT.av_eq, q19] at hG
 generalize j.kd = j1 at *
 generalize j.num = j2 at *
 generalize j.txt = j3 at *
 generalize j.its = j4 at *
 generalize j.keys = j5 at *
 rw [q1g, q2q [110, 97, 109, 101]] at hT1
 rw [q0u, q2q [110, 97, 109, 101, 115, 112, 97, 99, 101]] at hT2 hG
 unfold xW xN at hT1 hT2 hF1 hF2 hA ⊢
 unfold xF at hA
 cases b with
 | true =>
   simp only [if_true] at hE1 hR
   subst hE1
   refine VC.toldXF (And.intro @q0c @q08) ent_124 [] Tryz.func124 rfl Tryz.ntmps124 fun hb hbL => ?_
   clear hb hbL
   refine q0a ?_
   refine q0p (And.intro @q0c @q0d) [1000000, 1000001] (hT1) ?_
   refine q0b (And.intro @q0c @q0d) ?_
   refine q0k (hG) ?_
   refine q2i ?_
   refine q0p (And.intro @q0c @q0d) [1000000, 1000001] (hT2) ?_
   refine q0b (And.intro @q0c @q0d) ?_
   refine q0k (hR) ?_
   refine q0a ?_
   refine q48 (hK) ?_
   refine q0a ?_
   refine q0p (And.intro @q0c @q0d) [1000000, 1000001] (hF1) ?_
   refine q0b (And.intro @q0c @q0d) ?_
   (refine AO.step fun K hK => ?_; simp only [go_sem, Int.reduceBEq, Int.reduceLE, Int.reduceLT, Int.reduceNeg, Nat.reduceAdd, Nat.reduceEqDiff, Nat.reduceLT, Nat.reduceLeDiff, Nat.reduceMul, Nat.reduceSub, reduceCtorEq, ↓reduceIte]; (first | refine q0q ?_ | skip))
   refine .inr (.inl ⟨_, [.agg [.c (.sl 10 (es.map EN.cells)), .c (.v (.int .i64 0))], .c (.v (.string (str full)))], [1000001], ⟨by rfl, by rfl, fun k x z h5 h6 => ?_, by rfl, hFi⟩, hK _ _ _ ?_⟩)
   · match k with
     | 0 =>
       obtain rfl := Option.some.inj h5
       obtain rfl := Option.some.inj h6
       refine View.agg rfl fun k x z h7 h8 => ?_
       match k with
       | 0 =>
         obtain rfl := Option.some.inj h7
         obtain rfl := Option.some.inj h8
         exact View.row (B := ⟨true, 40, 10, rA EN.cells es⟩) (es := es.map EN.cells) (by simp [q0d]) rfl (q0c _ _) (q5v _ _)
       | 1 =>
         obtain rfl := Option.some.inj h7
         obtain rfl := Option.some.inj h8
         exact .same _
       | k + 2 => simp at h7
     | 1 =>
       obtain rfl := Option.some.inj h5
       obtain rfl := Option.some.inj h6
       exact .same _
     | k + 2 => simp at h5
   clear hK K
   refine q0b (And.intro @q0c @q0d) ?_
   refine q0p (And.intro @q0c @q0d) [1000000, 1000001] (hF2) ?_
   refine q0b (And.intro @q0c @q0d) ?_
   refine AO.stepJw rfl (q7y _ _ _ _ _ _ _ _ [1000000, 1000001, 240] _ _ [false, false, true] rfl (by trivial) rfl ?_ ?_ (by simp) (by simp) ?_ ?_ hA) ?_
   · simp [okx, putd, upd, AV.okb]
   · simp only [q1q, q0c, q0d, go_sem, Int.reduceBEq, Int.reduceLE, Int.reduceLT, Int.reduceNeg, Nat.reduceAdd, Nat.reduceEqDiff, Nat.reduceLT, Nat.reduceLeDiff, Nat.reduceMul, Nat.reduceSub, reduceCtorEq, ↓reduceIte]
   · simp only [q0c, q0d, go_sem, Int.reduceBEq, Int.reduceLE, Int.reduceLT, Int.reduceNeg, Nat.reduceAdd, Nat.reduceEqDiff, Nat.reduceLT, Nat.reduceLeDiff, Nat.reduceMul, Nat.reduceSub, reduceCtorEq, ↓reduceIte]
   · exact ⟨rfl, trivial⟩
   simp only [wrK, wrM, q0c, q0d, go_sem, Int.reduceBEq, Int.reduceLE, Int.reduceLT, Int.reduceNeg, Nat.reduceAdd, Nat.reduceEqDiff, Nat.reduceLT, Nat.reduceLeDiff, Nat.reduceMul, Nat.reduceSub, reduceCtorEq, ↓reduceIte]
   refine q0b (And.intro @q0c @q0d) ?_
   refine q1r (@q0d) Tryz.results124 ?_
   exact .aggL (.cons (.c _) (.cons (.c _) (.cons (.c _) (.cons (.nil 9) (.cons (.nil 1) (.cons (.c _) (.cons (.c _) (.cons (.c _) (.cons (.c _) (.cons (.nil 1) .nil))))))))))
 | false =>
   simp only [Bool.false_eq_true, if_false] at hE1 hR
   subst hE1
   rw [q2q []] at hR
   refine VC.toldXF (And.intro @q0c @q08) ent_124 [] Tryz.func124 rfl Tryz.ntmps124 fun hb hbL => ?_
   clear hb hbL
   refine q0a ?_
   refine q0p (And.intro @q0c @q0d) [1000000, 1000001] (hT1) ?_
   refine q0b (And.intro @q0c @q0d) ?_
   refine q0k (hG) ?_
   refine q2i ?_
   refine q0k (hR) ?_
   refine q0a ?_
   refine q48 (hK) ?_
   refine q0a ?_
   refine q0p (And.intro @q0c @q0d) [1000000, 1000001] (hF1) ?_
   refine q0b (And.intro @q0c @q0d) ?_
   (refine AO.step fun K hK => ?_; simp only [go_sem, Int.reduceBEq, Int.reduceLE, Int.reduceLT, Int.reduceNeg, Nat.reduceAdd, Nat.reduceEqDiff, Nat.reduceLT, Nat.reduceLeDiff, Nat.reduceMul, Nat.reduceSub, reduceCtorEq, ↓reduceIte]; (first | refine q0q ?_ | skip))
   refine .inr (.inl ⟨_, [.agg [.c (.sl 10 (es.map EN.cells)), .c (.v (.int .i64 0))], .c (.v (.string (str full)))], [1000001], ⟨by rfl, by rfl, fun k x z h5 h6 => ?_, by rfl, hFi⟩, hK _ _ _ ?_⟩)
   · match k with
     | 0 =>
       obtain rfl := Option.some.inj h5
       obtain rfl := Option.some.inj h6
       refine View.agg rfl fun k x z h7 h8 => ?_
       match k with
       | 0 =>
         obtain rfl := Option.some.inj h7
         obtain rfl := Option.some.inj h8
         exact View.row (B := ⟨true, 40, 10, rA EN.cells es⟩) (es := es.map EN.cells) (by simp [q0d]) rfl (q0c _ _) (q5v _ _)
       | 1 =>
         obtain rfl := Option.some.inj h7
         obtain rfl := Option.some.inj h8
         exact .same _
       | k + 2 => simp at h7
     | 1 =>
       obtain rfl := Option.some.inj h5
       obtain rfl := Option.some.inj h6
       exact .same _
     | k + 2 => simp at h5
   clear hK K
   refine q0b (And.intro @q0c @q0d) ?_
   refine q0p (And.intro @q0c @q0d) [1000000, 1000001] (hF2) ?_
   refine q0b (And.intro @q0c @q0d) ?_
   refine AO.stepJw rfl (q7y _ _ _ _ _ _ _ _ [1000000, 1000001, 208] _ _ [false, false, true] rfl (by trivial) rfl ?_ ?_ (by simp) (by simp) ?_ ?_ hA) ?_
   · simp [okx, putd, upd, AV.okb]
   · simp only [q1q, q0c, q0d, go_sem, Int.reduceBEq, Int.reduceLE, Int.reduceLT, Int.reduceNeg, Nat.reduceAdd, Nat.reduceEqDiff, Nat.reduceLT, Nat.reduceLeDiff, Nat.reduceMul, Nat.reduceSub, reduceCtorEq, ↓reduceIte]
   · simp only [q0c, q0d, go_sem, Int.reduceBEq, Int.reduceLE, Int.reduceLT, Int.reduceNeg, Nat.reduceAdd, Nat.reduceEqDiff, Nat.reduceLT, Nat.reduceLeDiff, Nat.reduceMul, Nat.reduceSub, reduceCtorEq, ↓reduceIte]
   · exact ⟨rfl, trivial⟩
   simp only [wrK, wrM, q0c, q0d, go_sem, Int.reduceBEq, Int.reduceLE, Int.reduceLT, Int.reduceNeg, Nat.reduceAdd, Nat.reduceEqDiff, Nat.reduceLT, Nat.reduceLeDiff, Nat.reduceMul, Nat.reduceSub, reduceCtorEq, ↓reduceIte]
   refine q0b (And.intro @q0c @q0d) ?_
   refine q1r (@q0d) Tryz.results124 ?_
   exact .aggL (.cons (.c _) (.cons (.c _) (.cons (.c _) (.cons (.nil 9) (.cons (.nil 1) (.cons (.c _) (.cons (.c _) (.cons (.c _) (.cons (.c _) (.cons (.nil 1) .nil))))))))))

def q21 (f : FuncId) (es : List EN) (e : Int) (args : List AV) (V : List NT × Int × Int) : Prop :=
 ToldM Tryz.prog f (.ref 1000000 1 0 0 :: args) [xW es.length e, xN es] [some (xW (es ++ V.1.map EN.of).length V.2.2), some (xN (es ++ V.1.map EN.of))] (.c (.v (.int .i64 V.2.1)))
def strV (s : List UInt8) : AV := .c (.v (.string (str s)))
def intV (k : Int) : AV := .c (.v (.int .i64 k))
/-- An object whose type is a text. -/
theorem j45 (es : List EN) (hl : es.length ≤ 200) (j : JT) (a : List UInt8) (hty : ((gt j q0y).kd != 4) = false) (V : List NT × Int × Int) (H : Int) (nd : Int → NT)
  (hH : ToldM Tryz.prog 124 [.ref 1000000 1 0 0, j.av, intV (q0x (gt j q0y).txt), strV a] [xW es.length 0, xN es] [some (xW es.length H), some (xN es)] (EN.of (nd (q0x (gt j q0y).txt))).av)
  (h11 : q0x (gt j q0y).txt = 11 → q21 122 es 0 [j.av, intV 11, strV aItems, strV a] V)
  (h12 : q0x (gt j q0y).txt = 12 → q21 122 es 0 [j.av, intV 12, strV aValues, strV a] V)
  (h9 : q0x (gt j q0y).txt = 9 → q21 123 es H [j.av, (EN.of (nd 9)).av] V)
  (h10 : q0x (gt j q0y).txt = 10 → q21 125 es H [j.av, (EN.of (nd 10)).av] V)
  (h14 : q0x (gt j q0y).txt = 14 → q21 126 es H [j.av, (EN.of (nd 14)).av] V)
  (hel : q0x (gt j q0y).txt ≠ 11 → q0x (gt j q0y).txt ≠ 12 → q0x (gt j q0y).txt ≠ 9 → q0x (gt j q0y).txt ≠ 10 → q0x (gt j q0y).txt ≠ 14 → q21 70 es 0 [strV (gt j q0y).txt, strV a] V) :
  q21 72 es 0 [j.av, strV a] V := by
 unfold q21 strV intV at *
 have hT := q77 es es.length rfl 0 j q0y
 rw [hty, show fl 0 false 30 = 0 from rfl] at hT
 have hK := j2v (gt j q0y).txt
 clear hty
 generalize (gt j q0y).txt = w at *
 obtain ⟨V1, V2, V3⟩ := V
 simp only [] at h11 h12 h9 h10 h14 hel ⊢
 generalize es ++ V1.map EN.of = es' at *
 have hcase : q0x w = 11 ∨ q0x w = 12 ∨ q0x w = 9 ∨ q0x w = 10 ∨ q0x w = 14 ∨ (q0x w ≠ 11 ∧ q0x w ≠ 12 ∧ q0x w ≠ 9 ∧ q0x w ≠ 10 ∧ q0x w ≠ 14) := by omega
 rw [JT.av_eq, q19] at *
 generalize j.kd = j1 at *
 generalize j.num = j2 at *
 generalize j.txt = j3 at *
 generalize j.its = j4 at *
 generalize j.keys = j5 at *
 rw [q0y, q2q [116, 121, 112, 101]] at hT
 rw [aItems, q2q [105, 116, 101, 109, 115]] at h11
 rw [aValues, q2q [118, 97, 108, 117, 101, 115]] at h12
 unfold xW xN at *
 rcases hcase with hk | hk | hk | hk | hk | ⟨q1, q2, q3, q4, q5⟩
 · have hM := h11 hk
   rw [hk] at hK
   clear h11 h12 h9 h10 h14 hel hH
   refine VC.toldXF (And.intro @q0c @q08) q5f [] Tryz.func72 rfl Tryz.ntmps72 fun hb hbL => ?_
   clear hb hbL
   refine q0a ?_
   refine q0p (And.intro @q0c @q0d) [1000000, 1000001] (hT) ?_
   refine q0w (And.intro @q0c @q0d) ?_
   refine q0k (hK) ?_
   refine q0w (And.intro @q0c @q0d) ?_
   refine q0p (And.intro @q0c @q0d) [1000000, 1000001] (hM) ?_
   refine q0b (And.intro @q0c @q0d) ?_
   refine q1r (@q0d) Tryz.results72 ?_
   exact .c _
 · have hM := h12 hk
   rw [hk] at hK
   clear h11 h12 h9 h10 h14 hel hH
   refine VC.toldXF (And.intro @q0c @q08) q5f [] Tryz.func72 rfl Tryz.ntmps72 fun hb hbL => ?_
   clear hb hbL
   refine q0a ?_
   refine q0p (And.intro @q0c @q0d) [1000000, 1000001] (hT) ?_
   refine q0w (And.intro @q0c @q0d) ?_
   refine q0k (hK) ?_
   refine q0w (And.intro @q0c @q0d) ?_
   refine q0p (And.intro @q0c @q0d) [1000000, 1000001] (hM) ?_
   refine q0b (And.intro @q0c @q0d) ?_
   refine q1r (@q0d) Tryz.results72 ?_
   exact .c _
 · have hM := h9 hk
   rw [hk] at hK hH
   rw [EN.av_eq, q6g] at hM hH
   clear h11 h12 h9 h10 h14 hel
   generalize nd (9 : Nat) = n at *
   refine VC.toldXF (And.intro @q0c @q08) q5f [] Tryz.func72 rfl Tryz.ntmps72 fun hb hbL => ?_
   clear hb hbL
   refine q0a ?_
   refine q0p (And.intro @q0c @q0d) [1000000, 1000001] (hT) ?_
   refine q0w (And.intro @q0c @q0d) ?_
   refine q0k (hK) ?_
   refine q0w (And.intro @q0c @q0d) ?_
   refine q0p (And.intro @q0c @q0d) [1000000, 1000001] (hH) ?_
   refine q0b (And.intro @q0c @q0d) ?_
   refine q0p (And.intro @q0c @q0d) [1000000, 1000001] (hM) ?_
   refine q0b (And.intro @q0c @q0d) ?_
   refine q1r (@q0d) Tryz.results72 ?_
   exact .c _
 · have hM := h10 hk
   rw [hk] at hK hH
   rw [EN.av_eq, q6g] at hM hH
   clear h11 h12 h9 h10 h14 hel
   generalize nd (10 : Nat) = n at *
   refine VC.toldXF (And.intro @q0c @q08) q5f [] Tryz.func72 rfl Tryz.ntmps72 fun hb hbL => ?_
   clear hb hbL
   refine q0a ?_
   refine q0p (And.intro @q0c @q0d) [1000000, 1000001] (hT) ?_
   refine q0w (And.intro @q0c @q0d) ?_
   refine q0k (hK) ?_
   refine q0w (And.intro @q0c @q0d) ?_
   refine q0p (And.intro @q0c @q0d) [1000000, 1000001] (hH) ?_
   refine q0b (And.intro @q0c @q0d) ?_
   refine q0p (And.intro @q0c @q0d) [1000000, 1000001] (hM) ?_
   refine q0b (And.intro @q0c @q0d) ?_
   refine q1r (@q0d) Tryz.results72 ?_
   exact .c _
 · have hM := h14 hk
   rw [hk] at hK hH
   rw [EN.av_eq, q6g] at hM hH
   clear h11 h12 h9 h10 h14 hel
   generalize nd (14 : Nat) = n at *
   refine VC.toldXF (And.intro @q0c @q08) q5f [] Tryz.func72 rfl Tryz.ntmps72 fun hb hbL => ?_
   clear hb hbL
   refine q0a ?_
   refine q0p (And.intro @q0c @q0d) [1000000, 1000001] (hT) ?_
   refine q0w (And.intro @q0c @q0d) ?_
   refine q0k (hK) ?_
   refine q0w (And.intro @q0c @q0d) ?_
   refine q0p (And.intro @q0c @q0d) [1000000, 1000001] (hH) ?_
   refine q0b (And.intro @q0c @q0d) ?_
   refine q0p (And.intro @q0c @q0d) [1000000, 1000001] (hM) ?_
   refine q0b (And.intro @q0c @q0d) ?_
   refine q1r (@q0d) Tryz.results72 ?_
   exact .c _
 · have hM := hel q1 q2 q3 q4 q5
   have hK' : ∃ k : Int, (q0x w : Int) = k ∧ (k == 11) = false ∧ (k == 12) = false ∧ (k == 9) = false ∧ (k == 10) = false ∧ (k == 14) = false := ⟨_, rfl, by simp; omega, by simp; omega, by simp; omega, by simp; omega, by simp; omega⟩
   obtain ⟨k, hkk, g1, g2, g3, g4, g5⟩ := hK'
   rw [hkk] at hK
   clear h11 h12 h9 h10 h14 hel hH hkk q1 q2 q3 q4 q5
   refine VC.toldXF (And.intro @q0c @q08) q5f [] Tryz.func72 rfl Tryz.ntmps72 fun hb hbL => ?_
   clear hb hbL
   refine q0a ?_
   refine q0p (And.intro @q0c @q0d) [1000000, 1000001] (hT) ?_
   refine q0w (And.intro @q0c @q0d) ?_
   refine q0k (hK) ?_
   refine q0w (And.intro @q0c (And.intro @q0d (And.intro g1 (And.intro g2 (And.intro g3 (And.intro g4 g5)))))) ?_
   refine q0p (And.intro @q0c @q0d) [1000000, 1000001] (hM) ?_
   refine q0b (And.intro @q0c @q0d) ?_
   refine q1r (@q0d) Tryz.results72 ?_
   exact .c _
section
section
variable {P : Program} {N : Nat} {Q : Exit → ASt → Prop}
theorem VC.nilH {c : Code} {t : Nat → AV} {h : Nat → Option Blkd} {n : Nat} (j o : Nat) (T : TypeId) (z : Nat) (B : Blkd) (e : List AV) (hB : h j = some B) (hrow : B.row = false) (he : B.elems = [e]) (ho : e[o]? = some (.c (.v (.slice none 0 0)))) (hn : Nat.ble (n + 1) L0 = true)
  (hv : VC P N c ⟨t, upd (upd h n (some ⟨true, T, z, []⟩)) j (some ⟨false, B.T, B.z, [e.set o (.row n 0)]⟩), n + 8⟩ Q) : VC P N c ⟨t, h, n⟩ Q := ⟨fun C a W r => by
 obtain ⟨ro, φ, r⟩ := r
 have hn := Nat.le_of_ble_eq_true hn
 have hnu : ¬ Used n n := fun hu => by unfold Used at hu; omega
 have hjn : j ≠ n := fun e => hnu (e ▸ (r.scH j B hB).1)
 have r2 : Rel C (fun j => Used n j ∨ j = n) N t (upd h n (some ⟨true, T, z, []⟩)) ro (upd φ n (.slice none 0 0)) a W :=
  r.block (W' := W) (Keeps.refl _ _) (fun b hb => by simp [q0f] at hb) (.inr hnu)
   ⟨fun i e he => by simp at he, fun e he => by simp at he, [], ⟨rfl, fun j x v hx => by simp at hx⟩, by rw [if_pos rfl, q0m]; exact World.ownsRow_nil W 0 T z⟩ (fun e he => by simp at he)
 have r3 := r2.take (used' := Used (n + 8)) fun j hj => by
  unfold Used at hj ⊢
  omega
 have hB3 : upd h n (some ⟨true, T, z, []⟩) j = some B := by rw [q0t _ _ hjn]; exact hB
 obtain ⟨b1, b2, vs, b3, b4⟩ := r3.hp j B hB3
 have helen : e.length = B.z := b1 0 e (by rw [he]; rfl)
 have hol := (List.getElem?_eq_some_iff.1 ho).1
 rw [he, List.flatten_cons, List.flatten_nil, List.append_nil] at b3
 have hg : ∀ k B', Used (n + 8) k → upd (upd h n (some ⟨true, T, z, []⟩)) j (some ⟨false, B.T, B.z, [e.set o (.row n 0)]⟩) k = some B' → ∃ B0, upd h n (some ⟨true, T, z, []⟩) k = some B0 ∧ (B0.len < B'.len ∨ (B0.len = B'.len ∧ B0.z = B'.z ∧ upd (upd φ n (.slice none 0 0)) j (upd φ n (.slice none 0 0) j) k = upd φ n (.slice none 0 0) k)) := by
  intro k B' hk hB'
  by_cases hkj : k = j
  · subst hkj
    rw [q0m] at hB'
    obtain rfl := Option.some.inj hB'
    exact ⟨B, hB3, .inr ⟨by unfold Blkd.len; rw [he]; rfl, rfl, by rw [q0m]⟩⟩
  · rw [q0t _ _ hkj] at hB'
    exact ⟨B', hB', .inr ⟨rfl, rfl, q0t _ _ hkj⟩⟩
 have hnew : ∀ (i : Nat) (x : AV), (e.set o (.row n 0))[i]? = some x → (i = o ∧ x = .row n 0) ∨ (i ≠ o ∧ e[i]? = some x) := by
  intro i x hx
  by_cases hio : i = o
  · subst hio
    rw [List.getElem?_set_self hol] at hx
    exact .inl ⟨rfl, (Option.some.inj hx).symm⟩
  · rw [List.getElem?_set_ne (fun e => hio e.symm)] at hx
    exact .inr ⟨hio, hx⟩
 have hrow0 : ∀ v : Value, v = .slice none 0 0 → Rep W ro (upd (upd φ n (.slice none 0 0)) j (upd φ n (.slice none 0 0) j)) (upd (upd h n (some ⟨true, T, z, []⟩)) j (some ⟨false, B.T, B.z, [e.set o (.row n 0)]⟩)) (.row n 0) v := by
  rintro v rfl
  refine .row rfl fun B' hB' _ => ?_
  rw [q0t _ _ (fun e => hjn e.symm), q0m]
 have hscn : Sc (fun k => Used (n + 8) k ∨ k = j) (upd (upd h n (some ⟨true, T, z, []⟩)) j (some ⟨false, B.T, B.z, [e.set o (.row n 0)]⟩)) (.row n 0) := by
  refine .row (.inl (by unfold Used; omega)) fun B' hB' => Nat.zero_le _
 have r4 := r3.block (W' := W) (ℓ := j) (B := ⟨false, B.T, B.z, [e.set o (.row n 0)]⟩) (v := upd φ n (.slice none 0 0) j) (Keeps.refl _ _) (fun b hb => .inr ⟨B, hB3, hb⟩)
  (.inl ⟨B, hB3, .inr ⟨by unfold Blkd.len; rw [he]; rfl, rfl, rfl⟩⟩)
  ⟨fun i e' he' => by
    match i, he' with
    | 0, he' => obtain rfl := Option.some.inj he'; simpa using helen,
   fun e' he' x hx => by
    obtain rfl := List.mem_singleton.1 he'
    obtain ⟨i, hi, hxi⟩ := List.getElem_of_mem hx
    rcases hnew i x (by rw [List.getElem?_eq_getElem hi, hxi]) with ⟨_, rfl⟩ | ⟨_, h5⟩
    · rfl
    · exact b2 e (by rw [he]; exact List.mem_singleton.2 rfl) x (List.mem_of_getElem? h5),
   vs, by
    refine ⟨by simpa using b3.1, fun i x v hx hvv => ?_⟩
    simp only [List.flatten_cons, List.flatten_nil, List.append_nil] at hx
    rcases hnew i x hx with ⟨rfl, rfl⟩ | ⟨_, h5⟩
    · exact hrow0 v (q0v (b3.2 i _ v ho hvv))
    · exact (b3.2 i x v h5 hvv).map ((r3.scH j B hB3).2 e (by rw [he]; exact List.mem_singleton.2 rfl) x (List.mem_of_getElem? h5)) (fun _ _ => rfl) (fun _ h => h) hg, by
    rw [if_neg (by simp)]
    rw [if_neg (by simp [hrow])] at b4
    rw [q0m]
    exact b4⟩
  (fun e' he' x hx => by
   obtain rfl := List.mem_singleton.1 he'
   obtain ⟨i, hi, hxi⟩ := List.getElem_of_mem hx
   rcases hnew i x (by rw [List.getElem?_eq_getElem hi, hxi]) with ⟨_, rfl⟩ | ⟨_, h5⟩
   · exact hscn
   · refine ((r3.scH j B hB3).2 e (by rw [he]; exact List.mem_singleton.2 rfl) x (List.mem_of_getElem? h5)).map (fun k hk => .inl hk) fun k B' hk hB' => ?_
     obtain ⟨B0, h6, h7⟩ := hg k B' hk hB'
     exact ⟨B0, h6, by rcases h7 with h7 | h7 <;> omega⟩)
 have r5 := r4.take (used' := Used (n + 8)) fun k hk => by
  rcases hk with hk | rfl
  · exact hk
  · have := (r.scH k B hB).1
    unfold Used at this ⊢
    simp only [] at this
    omega
 exact hv.out C a W ⟨ro, _, r5⟩⟩
end
end

theorem bnode_obj (es : List EN) (j : JT) (hk : j.kd = 6) (a : List UInt8) (V : List NT × Int × Int) (hN : q21 72 es 0 [j.av, strV a] V) : q21 35 es 0 [j.av, strV a] V := by
 unfold q21 strV at *
 obtain ⟨V1, V2, V3⟩ := V
 simp only [] at hN ⊢
 generalize es ++ V1.map EN.of = es' at *
 rw [JT.av_eq, q19, hk] at *
 generalize j.num = j2 at *
 generalize j.txt = j3 at *
 generalize j.its = j4 at *
 generalize j.keys = j5 at *
 unfold xW xN at *
 refine VC.toldXF (And.intro @q0c @q08) ent_35 [] Tryz.func35 rfl Tryz.ntmps35 fun hb hbL => ?_
 clear hb hbL
 refine q0w (And.intro @q0c @q0d) ?_
 refine q0p (And.intro @q0c @q0d) [1000000, 1000001] (hN) ?_
 refine q0b (And.intro @q0c @q0d) ?_
 refine q1r (@q0d) Tryz.results35 ?_
 exact .c _
def wtE (e : Int) (wt : Nat → Int) (n : Nat) : Int := fl e ((List.range n).any fun i => decide (1000 < wt i)) 3
theorem j4q (e : Int) (wt : Nat → Int) : wtE e wt 0 = e := by
 unfold wtE fl
 split
 · rfl
 · simp; omega
theorem j4p (e : Int) (wt : Nat → Int) (n : Nat) : wtE e wt (n + 1) = fl (wtE e wt n) (wtE e wt n == 0 && decide (1000 < wt n)) 3 := by
 unfold wtE
 rw [List.range_succ, List.any_append]
 unfold fl
 by_cases he : e ≠ 0
 · simp [he]
 · simp only [ne_eq, Decidable.not_not] at he
   subst he
   cases ((List.range n).any fun i => decide (1000 < wt i)) <;> simp
def bldM (r : Bool) (V : List NT × Int × Int) (wt : Nat → Int) : ST × Int :=
 if r = false then (⟨[], 0⟩, 2) else if wtE V.2.2 wt V.1.length ≠ 0 then (⟨[], 0⟩, wtE V.2.2 wt V.1.length) else (⟨V.1, 0⟩, 0)
theorem j3b (l : List NT) : (l.map EN.of).map EN.cells = l.map NT.cells := by
 rw [List.map_map]
 rfl
theorem j4z (j : JT) (r : Bool) (hR : Told Tryz.prog 34 [j.av] (.c (.v (.bool r)))) (V : List NT × Int × Int) (hl : V.1.length ≤ 200) (hV : q21 35 [] 0 [j.av, strV []] V) (wt : Nat → Int)
  (hw : ∀ i, i < V.1.length → V.2.2 = 0 → Told Tryz.prog 37 [(ST.mk V.1 0).av, .c (.v (.int .i64 (i : Int)))] (.c (.v (.int .i64 (wt i))))) :
  Told Tryz.prog 13 [j.av] (.tup [(bldM r V wt).1.av, .c (.v (.int .i64 (bldM r V wt).2))]) := by
 unfold bldM
 obtain ⟨V1, V2, V3⟩ := V
 simp only [] at hl hw ⊢
 unfold q21 strV at hV
 simp only [List.nil_append, List.length_nil, List.length_map] at hV
 rw [show str [] = ⟨#[]⟩ from rfl] at hV
 cases r with
 | false =>
   clear hV hw
   rw [if_pos rfl]
   simp only [ST.av_eq, List.map_nil]
   rw [JT.av_eq, q19] at *
   generalize j.kd = j1 at *
   generalize j.num = j2 at *
   generalize j.txt = j3 at *
   generalize j.its = j4 at *
   generalize j.keys = j5 at *
   refine VC.toldP ent_13 Tryz.func13 rfl Tryz.ntmps13 fun hb => ?_
   clear hb
   refine q0a ?_
   refine q0k (hR) ?_
   refine q2i ?_
   refine retX Tryz.results13 ?_
   exact ⟨.aggL (.cons (.nil 10) (.cons (.c _) .nil)), .c _⟩
 | true =>
   rw [if_neg (by simp)]
   have hwt : ∀ i, i < V1.length → V3 = 0 → Told Tryz.prog 37 [.agg [.c (.sl 10 (V1.map NT.cells)), .c (.v (.int .i64 0))], .c (.v (.int .i64 (i : Int)))] (.c (.v (.int .i64 (wt i)))) := fun i hi he => hw i hi he
   clear hw
   have hfin : (if wtE V3 wt V1.length ≠ 0 then ((⟨[], 0⟩ : ST), wtE V3 wt V1.length) else (⟨V1, 0⟩, 0)) = (if wtE V3 wt V1.length ≠ 0 then ((⟨[], 0⟩ : ST), wtE V3 wt V1.length) else (⟨V1, 0⟩, 0)) := rfl
   rw [JT.av_eq, q19] at *
   generalize j.kd = j1 at *
   generalize j.num = j2 at *
   generalize j.txt = j3 at *
   generalize j.its = j4 at *
   generalize j.keys = j5 at *
   unfold xW xN at hV
   refine VC.toldP ent_13 Tryz.func13 rfl Tryz.ntmps13 fun hb => ?_
   clear hb
   refine q0a ?_
   refine q0k (hR) ?_
   refine q0a ?_
   refine VC.condF (by rfl) (by trivial) ?_
   refine VC.skip ?_; refine SQ.normal ?_
   (refine VC.seq ?_; (first | refine VC.region (by rfl) (by rfl) ?_ | refine VC.draw mixP (by rfl) (by rfl) ?_); (repeat (refine AO.step fun K hK => ?_; simp only [go_sem, Int.reduceBEq, Int.reduceLE, Int.reduceLT, Int.reduceNeg, Nat.reduceAdd, Nat.reduceEqDiff, Nat.reduceLT, Nat.reduceLeDiff, Nat.reduceMul, Nat.reduceSub, reduceCtorEq, ↓reduceIte]; (first | refine q10 ?_ | refine q0q ?_ | skip); (first | refine hK _ _ _ ?_ | refine ⟨by first | omega | exact ⟨_, rfl, rfl⟩ | exact fun _ => ⟨_, rfl, rfl⟩ | (intro h; simp only [h, true_and]; omega) | (clear hK; intro h; simp_all <;> omega), hK _ _ _ ?_⟩); clear hK K)); refine AO.nil ?_; first | refine SQ.normal ?_ | refine ⟨q13 (by kernel_rfl), SQ.normal ?_⟩)
   refine VC.nilH 56 0 40 10 ⟨false, 60, 3, [[.c (.v (.slice none 0 0)), .c (.v (.int .i64 0)), .c (.v (.int .i64 0))]]⟩ [.c (.v (.slice none 0 0)), .c (.v (.int .i64 0)), .c (.v (.int .i64 0))] (by rfl) rfl rfl (by rfl) (by rfl) ?_
   refine q0a ?_
   refine q0p (And.intro @q0c (And.intro @q0d @q7j)) [56, 72] (hV) ?_
   refine q0b (And.intro @q0c @q0d) ?_
   refine VC.loop (ι := {i : Nat // i ≤ V1.length}) (fun q => [(2, .ref 8 1 0 0), (4, .ref 56 1 0 0), (20, .c (.v (.int .i64 (V1.length : Int)))), (21, .c (.v (.int .i64 (q.1 : Int))))])
    (fun q => [(56, ⟨false, 60, 3, [[.row 72 V1.length, .c (.v (.int .i64 0)), .c (.v (.int .i64 (wtE V3 wt q.1)))]]⟩), (72, ⟨true, 40, 10, rA EN.cells (V1.map EN.of)⟩), (8, ⟨false, 30, 2, [[.c (.v (.slice none 0 0)), .c (.v (.int .i64 0))]]⟩)]) 800 (fun q => V1.length - q.1) ⟨0, Nat.zero_le _⟩ ?_ ?_
   · refine q4l (And.intro @q0c (And.intro @q08 (And.intro @q0d @j4q))) ?_
     exact Nat.le_refl _
   rintro ⟨i, hi⟩
   simp only []
   refine q0b (@q0c) ?_
   refine VC.cond (by rfl) (by trivial) (fun hc => ?_) (fun hc => ?_)
   · have hlt : i < V1.length := by simp at hc; omega
     have hw1 : IntKind.i64.wrap ((i : Int) + 1) = (i : Int) + 1 := q1i (by omega) (by omega)
     have hnx := j4p V3 wt i
     have hF := q3c (V1.map EN.of) V1.length (by simp) (wtE V3 wt i) 3 (wtE V3 wt i == 0 && decide (1000 < wt i))
     rw [← hnx] at hF
     unfold xW xN at hF
     have hz : wtE V3 wt i = 0 → V3 = 0 := fun h => by
      apply Classical.byContradiction
      intro hv
      unfold wtE at h
      rw [fl_no _ _ _ hv] at h
      exact hv h
     have hW := fun h => hwt i hlt (hz h)
     obtain ⟨e', he'⟩ : ∃ e', wtE V3 wt (i + 1) = e' := ⟨_, rfl⟩
     rw [he'] at hnx hF
     generalize wtE V3 wt i = ei at *
     by_cases h0 : ei = 0
     · replace hW := hW h0
       subst h0
       obtain ⟨bw, hbw⟩ : ∃ bw, decide (1000 < wt i) = bw := ⟨_, rfl⟩
       rw [show ((0 : Int) == 0) = true from rfl, Bool.true_and, hbw] at hF
       have hq : decide (wt i > 1000) = bw := hbw
       clear hbw hnx
       refine q0b (hq) ?_
       (refine AO.step fun K hK => ?_; simp only [go_sem, Int.reduceBEq, Int.reduceLE, Int.reduceLT, Int.reduceNeg, Nat.reduceAdd, Nat.reduceEqDiff, Nat.reduceLT, Nat.reduceLeDiff, Nat.reduceMul, Nat.reduceSub, reduceCtorEq, ↓reduceIte]; (first | refine q0q ?_ | skip))
       refine .inr (.inl ⟨_, [.agg [.c (.sl 10 (V1.map NT.cells)), .c (.v (.int .i64 0))], .c (.v (.int .i64 (i : Int)))], [72], ⟨by rfl, by rfl, fun k x z h5 h6 => ?_, by rfl, hW⟩, hK _ _ _ ?_⟩)
       · match k with
         | 0 =>
           obtain rfl := Option.some.inj h5
           obtain rfl := Option.some.inj h6
           refine View.agg rfl fun k x z h7 h8 => ?_
           match k with
           | 0 =>
             obtain rfl := Option.some.inj h7
             obtain rfl := Option.some.inj h8
             exact View.row (B := ⟨true, 40, 10, rA EN.cells (V1.map EN.of)⟩) (es := V1.map NT.cells) (by simp [q0d]) rfl (by rw [Blkd.len, q0c, List.length_map]) (by rw [q5v, j3b])
           | 1 =>
             obtain rfl := Option.some.inj h7
             obtain rfl := Option.some.inj h8
             exact .same _
           | k + 2 => simp at h7
         | 1 =>
           obtain rfl := Option.some.inj h5
           obtain rfl := Option.some.inj h6
           exact .same _
         | k + 2 => simp at h5
       clear hK K
       refine q0b (And.intro hq (And.intro @q0c @q0d)) ?_
       refine q0p (And.intro @q0c (And.intro @q0d hq)) [56, 72] (hF) ?_
       refine q0b (And.intro @q0c (And.intro @q0d hw1)) ?_
       refine .next ⟨i + 1, by omega⟩ ?_ (by simp only []; omega)
       refine q4l (And.intro @q0c (And.intro @q08 @q0d)) ?_
       exact ⟨cI (by omega), by rw [he'], Nat.le_refl _⟩
     · have hq : (ei == 0) = false := by simpa using h0
       rw [hq, Bool.false_and] at hF
       refine q0b (hq) ?_
       refine q0p (And.intro @q0c @q0d) [56, 72] (hF) ?_
       refine q0b (And.intro @q0c (And.intro @q0d hw1)) ?_
       refine .next ⟨i + 1, by omega⟩ ?_ (by simp only []; omega)
       refine q4l (And.intro @q0c (And.intro @q08 @q0d)) ?_
       exact ⟨cI (by omega), by rw [he'], Nat.le_refl _⟩
   · have he : i = V1.length := by simp at hc; omega
     subst he
     generalize wtE V3 wt V1.length = ei at *
     by_cases h0 : ei = 0
     · have hq : (ei != 0) = false := by simpa using h0
       rw [if_neg (by simp [h0])]
       refine q0w (And.intro hq @q0c) ?_
       refine retX Tryz.results13 ?_
       refine ⟨?_, .c _⟩
       rw [ST.av_eq]
       refine .aggL (.cons ?_ (.cons (.c _) .nil))
       rw [show (ST.mk V1 0).nodes.map NT.cells = (V1.map EN.of).map EN.cells from (j3b V1).symm]
       exact q4t (f := EN.cells) (T := 40) rfl (by rw [List.length_map]) rfl fun x _ => rfl
     · have hq : (ei != 0) = true := by simpa using h0
       rw [if_pos h0]
       refine q0w (And.intro hq @q0c) ?_
       refine retX Tryz.results13 ?_
       exact ⟨.aggL (.cons (.nil 10) (.cons (.c _) .nil)), .c _⟩
section
section
variable {P : Program} {N : Nat} {Q : Exit → ASt → Prop}
inductive GQ (Q : Exit → ASt → Prop) : Exit → ASt → Prop
 | normal {σ : ASt} (h : Q .normal σ) : GQ Q .normal σ
 | ret {σ : ASt} (h : Q .ret σ) : GQ Q .ret σ
 | exit {σ : ASt} {id : Nat} (h : Q (.exit id) σ) : GQ Q (.exit id) σ
theorem VC.scope {σ : ASt} {c : Code} (h : VC P N c σ (GQ Q)) : VC P N (.scope c) σ Q := ⟨fun C a W r => by
 refine wp_scope_straight (wp_mono (h.out C a W r) ?_)
 rintro e a' W' ⟨σ', hq, hr⟩
 cases hq with
 | normal h => exact ⟨σ', h, hr⟩
 | ret h => exact ⟨σ', h, hr⟩
 | exit h => exact ⟨σ', h, hr⟩⟩
theorem VC.label {σ : ASt} {l : Nat} (h : Q .normal σ) : VC P N (.label l) σ Q := ⟨fun C a W r => wp_label ⟨σ, h, r⟩⟩
instance p17 {c : Code} {σ : ASt} : Pass (VC P N (.scope c) σ Q) (VC P N c σ (GQ Q)) := ⟨VC.scope⟩
instance p18 {l : Nat} {σ : ASt} : Pass (VC P N (.label l) σ Q) (Q .normal σ) := ⟨VC.label⟩
instance p19 {σ : ASt} : Pass (GQ Q .normal σ) (Q .normal σ) := ⟨.normal⟩
instance p20 {σ : ASt} : Pass (GQ Q .ret σ) (Q .ret σ) := ⟨.ret⟩
instance p21 {σ : ASt} {id : Nat} : Pass (GQ Q (.exit id) σ) (Q (.exit id) σ) := ⟨.exit⟩
end
end

theorem j4r : ∀ L : List Blkd, zOk L (L.map fun _ => none)
 | [] => trivial
 | _ :: L => j4r L
theorem j23 {L : List Blkd} (j : Nat) : q0e (L.map fun _ => (none : Option Blkd)) j = none := by
 unfold q0e
 split
 · cases h : (L.map fun _ => (none : Option Blkd))[j - 1000000]? with
   | none => rfl
   | some x =>
     obtain ⟨B, _, rfl⟩ := List.mem_map.1 (List.mem_of_getElem? h)
     rfl
 · rfl
theorem ToldM.gone {P : Program} {f : FuncId} {args args' : List AV} {L : List Blkd} {y : AV} (hT : Told P f args' y) (hp : AV.pureL args' = true) (hy : y.pureB = true) (hL : ∀ B ∈ L, ∀ e ∈ B.elems, ∀ x ∈ e, ∃ p, x = .c p) (hlen : args'.length = args.length)
  (hv : ∀ (k : Nat) (x z : AV), args[k]? = some x → args'[k]? = some z → View (q0e (L.map some)) x z) : ToldM P f args L (L.map fun _ => none) y := by
 refine ⟨hT.1, j4r L, ⟨(q4g y hy).sc, fun b hb B hB => ?_⟩, fun W ro φ vs hro hgk hl hok => ?_⟩
 · obtain ⟨_, _, rfl⟩ := List.mem_map.1 hb
   simp at hB
 · have r : Rel (P := P) ⟨W, fun b => ∃ j B, q0e (L.map some) j = some B ∧ q0f (φ j) = some b, ro, fun _ => none, φ⟩ (fun _ => True) 0 (fun _ => .any) (q0e (L.map some)) ro φ ⟨#[], []⟩ W := by
    refine ⟨Keeps.refl _ W, rfl, rfl, fun k => .any _, hok.hp, hok.inj, fun j B b h1 h2 => ⟨hok.own j B b h1 h2, fun _ => ⟨j, B, h1, h2⟩⟩, hro, fun b h => h, fun b h => .inl h, fun k => .any, fun j B hB => ⟨trivial, fun e he x hx => ?_⟩, fun j n h => by simp at h, ⟨fun b hb => ⟨hro b hb, fun ⟨j, B, h1, h2⟩ => hok.own j B b h1 h2 hb⟩, hgk⟩⟩
    obtain ⟨_, h2⟩ := q3s hB
    rw [List.getElem?_map] at h2
    cases h3 : L[j - 1000000]? with
    | none => rw [h3] at h2; simp at h2
    | some C =>
      rw [h3] at h2
      obtain rfl := Option.some.inj (Option.some.inj h2)
      obtain ⟨p, rfl⟩ := hL _ (List.mem_of_getElem? h3) e he x hx
      exact .c
   have hl2 : RepL W (fun b => ro b ∨ ∃ j B, q0e (L.map some) j = some B ∧ q0f (φ j) = some b) φ0 h0 args' vs := by
    refine ⟨by rw [hl.1, hlen], fun j z v h1 h2 => ?_⟩
    have hj : j < args.length := by rw [← hlen]; exact (List.getElem?_eq_some_iff.1 h1).1
    have h3 := View.rep r (hv j _ z (List.getElem?_eq_getElem hj) h1) (hl.2 j _ v (List.getElem?_eq_getElem hj) h2)
    exact h3.pure (q28 args' hp z (List.mem_of_getElem? h1))
   have hro2 : ∀ b, (ro b ∨ ∃ j B, q0e (L.map some) j = some B ∧ q0f (φ j) = some b) → b < W.heap.size := by
    rintro b (hb | ⟨j, B, h1, h2⟩)
    · exact hro b hb
    · exact r.blk_lt h1 h2
   refine Calls.mono (hT.2 W _ vs hro2 (hgk.mono (fun _ _ => rfl) fun b hb => .inl hb) hl2) ?_
   rintro e W' ⟨v, ro', rfl, hb, h1, h2, h3, h4⟩
   refine ⟨v, ro', φ0, rfl, ⟨hb.os, hb.tape, hb.output, hb.size, fun k hk _ => hb.block k hk⟩, fun b hb' => h1 b (.inl hb'), fun b hb' => ⟨?_, (h2 b hb').2⟩, h3.pure h4, ⟨fun j B hB => ?_, fun j k B B' b hB => ?_, fun j B b hB => ?_⟩, fun j B' _ hB => ?_, fun j B b hB => ?_⟩
   · rcases (h2 b hb').1 with (h5 | h5) | h5
     · exact .inl h5
     · exact .inr (.inr h5)
     · exact .inr (.inl h5)
   all_goals (rw [j23] at hB; simp at hB)
inductive PCo : PV → PV → Prop
 | same (p : PV) : PCo p p
 | nil (z : Nat) : PCo (.v (.slice none 0 0)) (.sl z [])
 | sl {z : Nat} {es es' : List (List PV)} (hl : es'.length = es.length) (hx : ∀ (i : Nat) (e e' : List PV), es[i]? = some e → es'[i]? = some e' → e'.length = e.length)
   (hy : ∀ (i : Nat) (e e' : List PV), es[i]? = some e → es'[i]? = some e' → ∀ (j : Nat) (p q : PV), e[j]? = some p → e'[j]? = some q → PCo p q) : PCo (.sl z es) (.sl z es')
theorem PCo.rep {W : World} {ro : Nat → Prop} {p q : PV} (h : PCo p q) : ∀ {v : Value}, PRep W ro p v → PRep W ro q v := by
 induction h with
 | same p => exact fun h => h
 | nil z => intro v hr; cases hr with | v => exact PRep.nil _ _ _
 | @sl z es es' hl hx hy ih =>
   intro v hr
   cases hr with
   | @sl _ _ a c vss hn hc hnil ha hvl hz hz' hxx =>
     rw [← hl]
     refine .sl (by omega) hc hnil (fun hne => ha fun e0 => hne ?_) (by omega) (fun i e he => ?_) hz' (fun i j e vs p v h1 h2 h3 h4 => ?_)
     · rw [e0] at hl
       exact List.eq_nil_of_length_eq_zero hl
     · have hi : i < es.length := by rw [← hl]; exact (List.getElem?_eq_some_iff.1 he).1
       rw [hx i _ e (List.getElem?_eq_getElem hi) he]
       exact hz i _ (List.getElem?_eq_getElem hi)
     · have hi : i < es.length := by rw [← hl]; exact (List.getElem?_eq_some_iff.1 h1).1
       have g1 := hx i _ e (List.getElem?_eq_getElem hi) h1
       have hj : j < es[i].length := by rw [← g1]; exact (List.getElem?_eq_some_iff.1 h3).1
       exact ih i _ e (List.getElem?_eq_getElem hi) h1 j _ p (List.getElem?_eq_getElem hj) h3 (hxx i j _ vs _ v (List.getElem?_eq_getElem hi) h2 (List.getElem?_eq_getElem hj) h4)
inductive PCoL : List PV → List PV → Prop
 | nil : PCoL [] []
 | cons {x y : PV} {l m : List PV} (e : PCo x y) (t : PCoL l m) : PCoL (x :: l) (y :: m)
theorem PCoL.at_ {l m : List PV} (h : PCoL l m) : m.length = l.length ∧ ∀ (k : Nat) (x y : PV), l[k]? = some x → m[k]? = some y → PCo x y := by
 induction h with
 | nil => exact ⟨rfl, by simp⟩
 | cons e t ih =>
   refine ⟨by simp [ih.1], fun k x y h1 h2 => ?_⟩
   cases k with
   | zero => simp at h1 h2; subst h1 h2; exact e
   | succ k => exact ih.2 k x y (by simpa using h1) (by simpa using h2)
inductive PCoE : List (List PV) → List (List PV) → Prop
 | nil : PCoE [] []
 | cons {x y : List PV} {l m : List (List PV)} (e : PCoL x y) (t : PCoE l m) : PCoE (x :: l) (y :: m)
theorem PCoE.at_ {l m : List (List PV)} (h : PCoE l m) : m.length = l.length ∧ ∀ (k : Nat) (x y : List PV), l[k]? = some x → m[k]? = some y → PCoL x y := by
 induction h with
 | nil => exact ⟨rfl, by simp⟩
 | cons e t ih =>
   refine ⟨by simp [ih.1], fun k x y h1 h2 => ?_⟩
   cases k with
   | zero => simp at h1 h2; subst h1 h2; exact e
   | succ k => exact ih.2 k x y (by simpa using h1) (by simpa using h2)
theorem PCo.rows {z : Nat} {es es' : List (List PV)} (h : PCoE es es') : PCo (.sl z es) (.sl z es') :=
 .sl h.at_.1 (fun i e e' h1 h2 => (h.at_.2 i e e' h1 h2).at_.1) fun i e e' h1 h2 j p q h3 h4 => (h.at_.2 i e e' h1 h2).at_.2 j p q h3 h4
theorem Told.pco {P : Program} {f : FuncId} {l m : List PV} {y : AV} (hT : Told P f [.agg (m.map .c)] y) (hc : PCoL l m) : Told P f [.agg (l.map .c)] y := by
 refine ⟨hT.1, fun W ro vs hro hgk hl => hT.2 W ro vs hro hgk ⟨hl.1, fun j x v h1 h2 => ?_⟩⟩
 cases j with
 | succ j => simp at h1
 | zero =>
   obtain rfl := Option.some.inj h1
   have hr := hl.2 0 _ v rfl h2
   cases hr with
   | agg hl' hx =>
     obtain ⟨g1, g2⟩ := hc.at_
     refine .agg (by rw [hl', List.length_map, List.length_map, g1]) fun k x v h3 h4 => ?_
     rw [List.getElem?_map] at h3
     cases h5 : m[k]? with
     | none => rw [h5] at h3; simp at h3
     | some q =>
       rw [h5] at h3
       obtain rfl := Option.some.inj h3
       have hk : k < l.length := by rw [← g1]; exact (List.getElem?_eq_some_iff.1 h5).1
       have h6 := hx k (.c l[k]) v (by rw [List.getElem?_map, List.getElem?_eq_getElem hk]; rfl) h4
       cases h6 with
       | c hp => exact .c ((g2 k _ q (List.getElem?_eq_getElem hk) h5).rep hp)
theorem Told.m {P : Program} {f : FuncId} {args : List AV} {y : AV} (hT : Told P f args y) (hp : AV.pureL args = true) (hy : y.pureB = true) : ToldM P f args [] [] y :=
 ToldM.gone (L := []) hT hp hy (by simp) rfl fun k x z h1 h2 => by
  rw [h1] at h2
  obtain rfl := Option.some.inj h2
  exact .same _
theorem ToldM.told {P : Program} {f : FuncId} {args : List AV} {y : AV} (hT : ToldM P f args [] [] y) (hp : AV.pureL args = true) (hy : y.pureB = true) : Told P f args y := by
 have hn : ∀ j, q0e (([] : List Blkd).map some) j = none := fun j => j23 (L := []) j
 refine ⟨hT.enters, fun W ro vs hro hgk hl => ?_⟩
 refine Calls.mono (hT.out W ro φ0 vs hro hgk ⟨hl.1, fun j x v h1 h2 => (hl.2 j x v h1 h2).pure (q28 args hp x (List.mem_of_getElem? h1))⟩ ⟨fun j B h => by rw [hn] at h; simp at h, fun j k B B' b h => by rw [hn] at h; simp at h, fun j B b h => by rw [hn] at h; simp at h⟩) ?_
 rintro e W' ⟨v, ro', φ', rfl, h1, h2, h3, h4, _, _, _⟩
 refine ⟨v, ro', rfl, ⟨h1.os, h1.tape, h1.output, h1.size, fun k hk => h1.block k hk fun ⟨j, B, h5, _⟩ => by rw [hn] at h5; simp at h5⟩, h2, fun b hb => ⟨?_, (h3 b hb).2⟩, h4.pure (q4g y hy), q4g y hy⟩
 rcases (h3 b hb).1 with h5 | h5 | ⟨j, B, h5, _⟩
 · exact .inl h5
 · exact .inr h5
 · rw [hn] at h5; simp at h5
end
end Go.Proofs.YthkofkaocipomaaGreatDoor
