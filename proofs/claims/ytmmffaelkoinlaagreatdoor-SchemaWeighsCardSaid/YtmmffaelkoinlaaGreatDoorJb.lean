/- jprint.bare, as a contract over plain values. -/
import Derived.Test.YtmmffaelkoinlaaGreatDoorUx
import Derived.Test.YtmmffaelkoinlaaGreatDoorAt
namespace Go.Proofs.YtmmffaelkoinlaaGreatDoor
open Go.RowKit
set_option linter.unusedVariables false
set_option linter.unusedSimpArgs false
attribute [local go_sem] opx opE ev okx gcond bnd okO AV.get AV.okb cAV upd_at putd_some putd_none wrs_nil wrs_cons look_nil look_cons st argT_at bpick_and bpick_or bpick_true bpick_false binV binI binS binVOk binOk isShift binSOk unV unVOk loadV loadP cellsA zeroA Blkd.len setE grown moreA moreR moreOk eqRes pv fillA fillE putSeg AV.cellish AV.pureL AV.pureB lentL_is ex_some AV.ren AV.renL renL_c Blkd.ren rho wrM renN lentOk rhoE keepM endOk tyA_2 tyA_3 tyA_4 tyA_5 tyA_6 tyA_7 tyA_8 tyA_9 tyA_10 tyA_11 tyA_12 tyA_13 tyA_14 tyA_15 tyA_16 tyA_17 tyA_18 tyA_19 tyA_21 tyA_22 tyA_23 tyA_24 tyA_28 tyA_29 tyA_30 tyA_31 tyA_32 tyA_34 tyA_35 tyA_36 tyA_37 tyA_38 tyA_42 tyA_47 tyA_48 tyA_49 tyA_50 tyA_51 tyA_81 tyA_85 tyA_89 tyA_90 tyA_91 tyA_98 tyA_110 tyA_111 tyA_112 tyA_113 tyA_114 tyA_119 tyA_130 tyA_160 tyA_163 tyA_165 tyA_171 tyA_181 tyA_185 tyA_187 tyA_191 tyA_192 tyA_193 tyA_194 tyA_195 tyA_197 tyA_198 tyA_200 tyA_201 tyA_202 tyA_205 Option.map_some Option.map_none Option.getD_some Option.getD_none Option.bind_some Option.bind_none List.getElem?_cons_zero List.getElem?_cons_succ List.getElem?_nil List.getElem?_toArray List.length_cons List.length_nil List.length_map List.forall_mem_map List.map_cons List.map_nil List.drop_zero List.drop_succ_cons List.drop_nil List.take_zero List.take_succ_cons List.take_nil List.mem_cons List.not_mem_nil or_false forall_eq_or_imp forall_eq List.set_cons_zero List.set_cons_succ List.cons_append List.nil_append List.append_nil List.foldl_cons List.foldl_nil List.replicate_succ List.replicate_zero List.all_cons List.all_nil if_true if_false Bool.false_eq_true ne_eq not_false_eq_true not_true_eq_false true_and and_true and_self true_implies imp_self implies_true forall_const beq_self_eq_true Bool.and_true Bool.true_and Bool.and_false Bool.false_and Bool.or_true Bool.true_or Bool.or_false Bool.false_or Bool.not_true Bool.not_false Bool.not_eq_eq_eq_not intKindOf Value.oneCell' Int.toNat_natCast beq_true beq_false Bool.not_eq_true false_implies false_or true_or or_true Nat.zero_add Nat.add_zero decide_true decide_false Int.cast_ofNat_Int Int.toNat_zero Int.toNat_one eq_self

mutual
/-- No text, no row of a tree is longer than N. -/
def JT.sm (N : Nat) : JT → Prop
  | .mk k n s ks xs => s.length ≤ N ∧ ks.length ≤ N ∧ (∀ y ∈ ks, y.length ≤ N) ∧ xs.length ≤ N ∧ JT.smL N xs
def JT.smL (N : Nat) : List JT → Prop
  | [] => True
  | x :: xs => x.sm N ∧ JT.smL N xs
end
theorem smL_mem {N : Nat} : ∀ {xs : List JT}, JT.smL N xs → ∀ x ∈ xs, x.sm N
  | x :: xs, h, y, hy => by
    rcases List.mem_cons.1 hy with rfl | hy
    · exact h.1
    · exact smL_mem h.2 y hy
theorem smL_of {N : Nat} : ∀ {xs : List JT}, (∀ x ∈ xs, x.sm N) → JT.smL N xs
  | [], _ => trivial
  | x :: xs, h => ⟨h x (by simp), smL_of fun y hy => h y (by simp [hy])⟩
/-- Has a tree nothing but what its kind has? -/
def jbare : JT → Bool
  | .mk k n s ks xs =>
    if k = 1 then (n == 0) && s.isEmpty && xs.isEmpty else if k = 2 then (n == 0 || n == 1) && s.isEmpty && xs.isEmpty else if k = 3 then s.isEmpty && xs.isEmpty
    else if k = 4 then (n == 0) && xs.isEmpty && isRight s else if k = 5 ∨ k = 6 then (n == 0) && s.isEmpty else false
theorem str_empty (s : List UInt8) : (!((str s).toList == (⟨#[]⟩ : ByteArray).toList)) = !s.isEmpty := by
  rw [str_toList, show (⟨#[]⟩ : ByteArray) = str [] from rfl, str_toList]
  cases s <;> rfl
theorem nn_eq (n m : Int) : (!(n != m)) = (n == m) := by cases h : n == m <;> simp_all [bne]
set_option maxRecDepth 100000 in
set_option maxHeartbeats 800000 in
theorem jbare_told (t : JT) (ht : t.sm 140737488355328) : Told Tryz.prog 135 [t.av] (.c (.v (.bool (jbare t)))) := by
  cases t with
  | mk k n s ks xs =>
  have hs : s.length ≤ 140737488355328 := ht.1
  have hR := uright_told s (by omega)
  refine VC.told ent_135 Tryz.func135 rfl Tryz.ntmps135 (by simp) rfl rfl fun hb => ?_
  clear hb
  have g1 : decide ((xs.length : Int) > 0) = !xs.isEmpty := by cases xs <;> simp <;> omega
  refine walkGF (And.intro @JT.av_eq (And.intro @cells_mk (And.intro @str_empty g1))) ?_
  refine VC.cond (by rfl) (by trivial) (fun h1 => ?_) (fun h1 => ?_)
  · refine walkG ?_
    refine ⟨by first | exact .inr rfl | exact .inl rfl, ?_⟩; rw [Tryz.results135]; simp only [resOk, resV, go_sem, Int.reduceBEq, Int.reduceLE, Int.reduceLT, Int.reduceNeg, Nat.reduceAdd, Nat.reduceEqDiff, Nat.reduceLT, Nat.reduceLeDiff, Nat.reduceMul, Nat.reduceSub, reduceCtorEq, ↓reduceIte]
    refine frz_c ?_
    simp only [beq_iff_eq] at h1
    simp only [jbare, h1, if_true, nn_eq, bpick_and, Bool.not_not]
  refine walkGF (And.intro @JT.av_eq @cells_mk) ?_
  refine VC.cond (by rfl) (by trivial) (fun h2 => ?_) (fun h2 => ?_)
  · refine walkGF (And.intro @cells_mk (And.intro @str_empty g1)) ?_
    refine ⟨by first | exact .inr rfl | exact .inl rfl, ?_⟩; rw [Tryz.results135]; simp only [resOk, resV, go_sem, Int.reduceBEq, Int.reduceLE, Int.reduceLT, Int.reduceNeg, Nat.reduceAdd, Nat.reduceEqDiff, Nat.reduceLT, Nat.reduceLeDiff, Nat.reduceMul, Nat.reduceSub, reduceCtorEq, ↓reduceIte]
    refine frz_c ?_
    obtain rfl : k = 2 := by simpa using h2
    simp [jbare]
  refine walkGF (And.intro @JT.av_eq @cells_mk) ?_
  refine VC.cond (by rfl) (by trivial) (fun h3 => ?_) (fun h3 => ?_)
  · refine walkGF (And.intro @cells_mk (And.intro @str_empty g1)) ?_
    refine ⟨by first | exact .inr rfl | exact .inl rfl, ?_⟩; rw [Tryz.results135]; simp only [resOk, resV, go_sem, Int.reduceBEq, Int.reduceLE, Int.reduceLT, Int.reduceNeg, Nat.reduceAdd, Nat.reduceEqDiff, Nat.reduceLT, Nat.reduceLeDiff, Nat.reduceMul, Nat.reduceSub, reduceCtorEq, ↓reduceIte]
    refine frz_c ?_
    obtain rfl : k = 3 := by simpa using h3
    simp [jbare]
  refine walkGF (And.intro @JT.av_eq @cells_mk) ?_
  refine VC.cond (by rfl) (by trivial) (fun h4 => ?_) (fun h4 => ?_)
  · obtain rfl : k = 4 := by simpa using h4
    refine walkGF (And.intro @cells_mk (And.intro @str_empty (And.intro g1 (And.intro @str_size hs)))) ?_
    refine walkDF (@str_dl) (hR) ?_
    refine walkG ?_
    refine ⟨by first | exact .inr rfl | exact .inl rfl, ?_⟩; rw [Tryz.results135]; simp only [resOk, resV, go_sem, Int.reduceBEq, Int.reduceLE, Int.reduceLT, Int.reduceNeg, Nat.reduceAdd, Nat.reduceEqDiff, Nat.reduceLT, Nat.reduceLeDiff, Nat.reduceMul, Nat.reduceSub, reduceCtorEq, ↓reduceIte]
    refine frz_c ?_
    simp only [jbare, nn_eq, bpick_and, Bool.not_not]
    simp
  refine walkGF (And.intro @JT.av_eq @cells_mk) ?_
  refine VC.cond (by rfl) (by trivial) (fun h5 => ?_) (fun h5 => ?_)
  · obtain rfl : k = 5 := by simpa using h5
    refine walkGF (@cells_mk) ?_
    refine VC.condT (by rfl) (by trivial) ?_
    refine walkGF (And.intro @cells_mk (And.intro @str_empty g1)) ?_
    refine ⟨by first | exact .inr rfl | exact .inl rfl, ?_⟩; rw [Tryz.results135]; simp only [resOk, resV, go_sem, Int.reduceBEq, Int.reduceLE, Int.reduceLT, Int.reduceNeg, Nat.reduceAdd, Nat.reduceEqDiff, Nat.reduceLT, Nat.reduceLeDiff, Nat.reduceMul, Nat.reduceSub, reduceCtorEq, ↓reduceIte]
    refine frz_c ?_
    simp only [jbare, nn_eq, bpick_and, Bool.not_not]
    simp
  refine walkGF (And.intro @JT.av_eq @cells_mk) ?_
  refine VC.cond (by rfl) (by trivial) (fun h6 => ?_) (fun h6 => ?_)
  · obtain rfl : k = 6 := by simpa using h6
    refine walkGF (And.intro @cells_mk (And.intro @str_empty g1)) ?_
    refine ⟨by first | exact .inr rfl | exact .inl rfl, ?_⟩; rw [Tryz.results135]; simp only [resOk, resV, go_sem, Int.reduceBEq, Int.reduceLE, Int.reduceLT, Int.reduceNeg, Nat.reduceAdd, Nat.reduceEqDiff, Nat.reduceLT, Nat.reduceLeDiff, Nat.reduceMul, Nat.reduceSub, reduceCtorEq, ↓reduceIte]
    refine frz_c ?_
    simp only [jbare, nn_eq, bpick_and, Bool.not_not]
    simp
  · refine walkGF (And.intro @cells_mk (And.intro @str_empty g1)) ?_
    refine ⟨by first | exact .inr rfl | exact .inl rfl, ?_⟩; rw [Tryz.results135]; simp only [resOk, resV, go_sem, Int.reduceBEq, Int.reduceLE, Int.reduceLT, Int.reduceNeg, Nat.reduceAdd, Nat.reduceEqDiff, Nat.reduceLT, Nat.reduceLeDiff, Nat.reduceMul, Nat.reduceSub, reduceCtorEq, ↓reduceIte]
    refine frz_c ?_
    simp only [beq_eq_false_iff_ne] at h1 h2 h3 h4 h5 h6
    simp [jbare, h1, h2, h3, h4, h5, h6]

end Go.Proofs.YtmmffaelkoinlaaGreatDoor
