/- jprint.right and Right, as contracts over plain values. -/
import Derived.Test.YtmmffaelkoinlaaGreatDoorKy
import Derived.Test.YtmmffaelkoinlaaGreatDoorIxJ
namespace Go.Proofs.YtmmffaelkoinlaaGreatDoor
open Go.RowKit
set_option linter.unusedVariables false
set_option linter.unusedSimpArgs false
attribute [local go_sem] opx opE ev okx gcond bnd okO AV.get AV.okb cAV upd_at putd_some putd_none wrs_nil wrs_cons look_nil look_cons st argT_at bpick_and bpick_or bpick_true bpick_false binV binI binS binVOk binOk isShift binSOk unV unVOk loadV loadP cellsA zeroA Blkd.len setE grown moreA moreR moreOk eqRes pv fillA fillE putSeg AV.cellish AV.pureL AV.pureB lentL_is ex_some AV.ren AV.renL renL_c Blkd.ren rho wrM renN lentOk rhoE keepM endOk tyA_2 tyA_3 tyA_4 tyA_5 tyA_6 tyA_7 tyA_8 tyA_9 tyA_10 tyA_11 tyA_12 tyA_13 tyA_14 tyA_15 tyA_16 tyA_17 tyA_18 tyA_19 tyA_21 tyA_22 tyA_23 tyA_24 tyA_28 tyA_29 tyA_30 tyA_31 tyA_32 tyA_34 tyA_35 tyA_36 tyA_37 tyA_38 tyA_42 tyA_47 tyA_48 tyA_49 tyA_50 tyA_51 tyA_81 tyA_85 tyA_89 tyA_90 tyA_91 tyA_98 tyA_110 tyA_111 tyA_112 tyA_113 tyA_114 tyA_119 tyA_130 tyA_160 tyA_163 tyA_165 tyA_171 tyA_181 tyA_185 tyA_187 tyA_191 tyA_192 tyA_193 tyA_194 tyA_195 tyA_197 tyA_198 tyA_200 tyA_201 tyA_202 tyA_205 Option.map_some Option.map_none Option.getD_some Option.getD_none Option.bind_some Option.bind_none List.getElem?_cons_zero List.getElem?_cons_succ List.getElem?_nil List.getElem?_toArray List.length_cons List.length_nil List.length_map List.forall_mem_map List.map_cons List.map_nil List.drop_zero List.drop_succ_cons List.drop_nil List.take_zero List.take_succ_cons List.take_nil List.mem_cons List.not_mem_nil or_false forall_eq_or_imp forall_eq List.set_cons_zero List.set_cons_succ List.cons_append List.nil_append List.append_nil List.foldl_cons List.foldl_nil List.replicate_succ List.replicate_zero List.all_cons List.all_nil if_true if_false Bool.false_eq_true ne_eq not_false_eq_true not_true_eq_false true_and and_true and_self true_implies imp_self implies_true forall_const beq_self_eq_true Bool.and_true Bool.true_and Bool.and_false Bool.false_and Bool.or_true Bool.true_or Bool.or_false Bool.false_or Bool.not_true Bool.not_false Bool.not_eq_eq_eq_not intKindOf Value.oneCell' Int.toNat_natCast beq_true beq_false Bool.not_eq_true false_implies false_or true_or or_true Nat.zero_add Nat.add_zero decide_true decide_false Int.cast_ofNat_Int Int.toNat_zero Int.toNat_one eq_self

def JT.kids : JT → List JT
  | .mk _ _ _ _ xs => xs
mutual
theorem sm_le {N M : Nat} (h : N ≤ M) : ∀ t : JT, t.sm N → t.sm M
  | .mk k n s ks xs => fun ⟨h1, h2, h3, h4, h5⟩ => ⟨Nat.le_trans h1 h, Nat.le_trans h2 h, fun y hy => Nat.le_trans (h3 y hy) h, Nat.le_trans h4 h, smL_le h xs h5⟩
theorem smL_le {N M : Nat} (h : N ≤ M) : ∀ xs : List JT, JT.smL N xs → JT.smL M xs
  | [] => fun _ => trivial
  | x :: xs => fun hx => ⟨sm_le h x hx.1, smL_le h xs hx.2⟩
end
mutual
/-- May a tree in d others be? -/
def jright (d : Nat) : JT → Bool
  | .mk k n s ks xs => jbare (.mk k n s ks xs) && jkeyed (.mk k n s ks xs) && !(decide (32 ≤ d) && (decide (k = 5) || decide (k = 6))) && jrights (d + 1) xs
def jrights (d : Nat) : List JT → Bool
  | [] => true
  | x :: xs => jright d x && jrights d xs
end
theorem jrights_any (d : Nat) : ∀ xs : List JT, (!xs.any fun x => !jright d x) = jrights d xs
  | [] => rfl
  | x :: xs => by rw [jrights, ← jrights_any d xs]; simp
set_option maxRecDepth 100000 in
set_option maxHeartbeats 400000 in
theorem right1_told {x : JT} {z : Int} {b : Bool} (h0 : 0 ≤ z) (h1 : z ≤ 32) (h : Told Tryz.prog 122 [x.av, .c (.v (.int .i64 (z + 1)))] (.c (.v (.bool b)))) : Told Tryz.prog 138 [x.av, .pp [.v (.int .i64 z)]] (.c (.v (.bool (!b)))) := by
  have hw : IntKind.i64.wrap (z + 1) = z + 1 := wrap64_id (by omega) (by omega)
  refine VC.told ent_138 Tryz.func138 rfl Tryz.ntmps138 (by simp) (by simp [AV.pureB, AV.pureL, JT.av, pureL_c]) rfl fun hb => ?_
  clear hb
  refine walkGF (And.intro @JT.av_eq (And.intro @len_cells (And.intro @take_cells (And.intro @take_cellsC hw)))) ?_
  refine walkCF (And.intro @JT.av_eq (And.intro @len_cells (And.intro @take_cells (And.intro @take_cellsC (And.intro hw @pureL_c))))) (h) ?_
  refine walkG ?_
  refine ⟨by first | exact .inr rfl | exact .inl rfl, ?_⟩; rw [Tryz.results138]; simp only [resOk, resV, go_sem, Int.reduceBEq, Int.reduceLE, Int.reduceLT, Int.reduceNeg, Nat.reduceAdd, Nat.reduceEqDiff, Nat.reduceLT, Nat.reduceLeDiff, Nat.reduceMul, Nat.reduceSub, reduceCtorEq, ↓reduceIte]
  exact .c _
theorem bare_kids {k n : Int} {s : List UInt8} {ks : List (List UInt8)} {xs : List JT} (h : jbare (.mk k n s ks xs) = true) (h5 : k ≠ 5) (h6 : k ≠ 6) : xs = [] := by
  rw [jbare] at h
  split at h
  · simp at h; exact h.2
  · split at h
    · simp at h; exact h.2
    · split at h
      · simp at h; exact h.2
      · split at h
        · simp at h; exact h.1.2
        · rw [if_neg (by simp [h5, h6])] at h
          exact absurd h (by simp)
set_option maxRecDepth 100000 in
set_option maxHeartbeats 800000 in
theorem right_told : ∀ (m : Nat) (t : JT), SizeOf.sizeOf t ≤ m → t.sm 4294967296 → ∀ (d : Nat) (z : Int), d ≤ 32 → z = (d : Int) → Told Tryz.prog 122 [t.av, .c (.v (.int .i64 z))] (.c (.v (.bool (jright d t)))) := by
  intro m
  induction m with
  | zero => intro t ht; cases t; simp at ht
  | succ m ih =>
  intro t ht hsm d z hd hz
  have hB := jbare_told t (sm_le (by omega) t hsm)
  have hKy := jkeyed_told t hsm
  have hx : ∀ x ∈ t.kids, Told Tryz.prog 122 [x.av, .c (.v (.int .i64 (z + 1)))] (.c (.v (.bool (jright (d + 1) x)))) ∨ 32 ≤ d := by
    intro x hx
    by_cases h32 : 32 ≤ d
    · exact .inr h32
    · cases t with
      | mk k n s ks xs => exact .inl (ih x (by have := List.sizeOf_lt_of_mem (show x ∈ xs from hx); simp at ht; omega) (smL_mem hsm.2.2.2.2 x hx) (d + 1) (z + 1) (by omega) (by omega))
  clear ih ht hsm
  obtain ⟨V, hV⟩ : ∃ V, V = jright d t := ⟨_, rfl⟩
  rw [← hV]
  cases t with
  | mk k n s ks xs =>
  rw [jright] at hV
  replace hx : ∀ x ∈ xs, _ := hx
  obtain ⟨b1, hb1⟩ : ∃ b1, b1 = jbare (.mk k n s ks xs) := ⟨_, rfl⟩
  obtain ⟨b2, hb2⟩ : ∃ b2, b2 = jkeyed (.mk k n s ks xs) := ⟨_, rfl⟩
  rw [← hb1] at hB hV
  rw [← hb2] at hKy hV
  simp only [JT.av, cells_mk, List.map_cons, List.map_nil] at hB hKy
  refine VC.told ent_122 Tryz.func122 rfl Tryz.ntmps122 (by simp) rfl rfl fun hb => ?_
  clear hb
  refine walkGF (And.intro @JT.av_eq @cells_mk) ?_
  refine walkCF (And.intro @JT.av_eq @cells_mk) (hB) ?_
  refine walkGF (And.intro @JT.av_eq @cells_mk) ?_
  refine walkDF (And.intro @JT.av_eq @cells_mk) (hKy) ?_
  refine walkGF (And.intro @JT.av_eq @cells_mk) ?_
  refine VC.cond (by rfl) (by trivial) (fun hc => ?_) (fun hc => ?_)
  · have hVf : V = false := by
      rw [hV]
      cases b1 <;> cases b2 <;> simp_all
      omega
    rw [hVf]
    refine walkG ?_
    refine ⟨by first | exact .inr rfl | exact .inl rfl, ?_⟩; rw [Tryz.results122]; simp only [resOk, resV, go_sem, Int.reduceBEq, Int.reduceLE, Int.reduceLT, Int.reduceNeg, Nat.reduceAdd, Nat.reduceEqDiff, Nat.reduceLT, Nat.reduceLeDiff, Nat.reduceMul, Nat.reduceSub, reduceCtorEq, ↓reduceIte]
    exact .c _
  · have hb12 : b1 = true ∧ b2 = true ∧ (32 ≤ d → k ≠ 5 ∧ k ≠ 6) := by
      cases b1 <;> cases b2 <;> simp_all
      intro h32
      exact hc (by omega)
    obtain ⟨rfl, rfl, hk56⟩ := hb12
    have hx2 : ∀ x ∈ xs, Told Tryz.prog 122 [x.av, .c (.v (.int .i64 (z + 1)))] (.c (.v (.bool (jright (d + 1) x)))) := by
      intro x hxm
      rcases hx x hxm with h | h
      · exact h
      · obtain ⟨h5, h6⟩ := hk56 h
        rw [bare_kids hb1.symm h5 h6] at hxm
        simp at hxm
    have hVt : V = jrights (d + 1) xs := by
      rw [hV]
      by_cases h32 : 32 ≤ d
      · obtain ⟨h5, h6⟩ := hk56 h32
        simp [h5, h6]
      · simp [h32]
    have hF := cnfJ_told (g := 138) (fs := []) (cs := [.pp [.v (.int .i64 z)]]) rfl rfl xs (fun x => !jright (d + 1) x) fun x hxm => right1_told (by omega) (by omega) (hx2 x hxm)
    refine VC.skip ?_; refine SQ.normal ?_
    refine VC.frz [8] [(2, .ref 0 1 0 0), (3, .pp [.v (.int .i64 z)])] [(0, ⟨false, 49, 5, [(JT.mk k n s ks xs).cells.map .c]⟩)] 400 ?_ ?_
    · simp only [cells_mk, WeakF, used_is, sc_any, sc_c, sc_pp, sc_ref, sc_row, sc_agg, sc_fn, ScL, some_imp, List.forall_mem_map, go_sem, Int.reduceBEq, Int.reduceLE, Int.reduceLT, Int.reduceNeg, Nat.reduceAdd, Nat.reduceEqDiff, Nat.reduceLT, Nat.reduceLeDiff, Nat.reduceMul, Nat.reduceSub, reduceCtorEq, ↓reduceIte]
      exact ⟨⟨.same _, .ref (es := [.v (.int .i64 z)]) (by simp) rfl rfl rfl rfl⟩, .same _⟩
    refine walkGF (@cells_mk) ?_
    refine walkCF (@cells_mk) (hF) ?_
    refine walkG ?_
    refine ⟨by first | exact .inr rfl | exact .inl rfl, ?_⟩; rw [Tryz.results122]; simp only [resOk, resV, go_sem, Int.reduceBEq, Int.reduceLE, Int.reduceLT, Int.reduceNeg, Nat.reduceAdd, Nat.reduceEqDiff, Nat.reduceLT, Nat.reduceLeDiff, Nat.reduceMul, Nat.reduceSub, reduceCtorEq, ↓reduceIte]
    rw [hVt, ← jrights_any]
    exact .c _

/-- May a tree be? -/
def jR (t : JT) : Bool := jright 0 t
set_option maxRecDepth 100000 in
set_option maxHeartbeats 400000 in
theorem jRight_told (t : JT) (ht : t.sm 4294967296) : Told Tryz.prog 93 [t.av] (.c (.v (.bool (jR t)))) := by
  have h := right_told _ t (Nat.le_refl _) ht 0 0 (by omega) rfl
  refine VC.told ent_93 Tryz.func93 rfl Tryz.ntmps93 (by simp) (by simp [AV.pureB, AV.pureL, JT.av, pureL_c]) rfl fun hb => ?_
  clear hb
  refine walkGF (And.intro @JT.av_eq (And.intro @len_cells (And.intro @take_cells @take_cellsC))) ?_
  refine walkCF (And.intro @JT.av_eq (And.intro @len_cells (And.intro @take_cells (And.intro @take_cellsC @pureL_c)))) (h) ?_
  refine walkG ?_
  refine ⟨by first | exact .inr rfl | exact .inl rfl, ?_⟩; rw [Tryz.results93]; simp only [resOk, resV, go_sem, Int.reduceBEq, Int.reduceLE, Int.reduceLT, Int.reduceNeg, Nat.reduceAdd, Nat.reduceEqDiff, Nat.reduceLT, Nat.reduceLeDiff, Nat.reduceMul, Nat.reduceSub, reduceCtorEq, ↓reduceIte]
  exact .c _

end Go.Proofs.YtmmffaelkoinlaaGreatDoor
