/- Texts that lead to the law FingerSchemas, joined. -/
import Derived.Test.YtkaogeogjjcdhaaGreatDoorPkFingerSchemasA
import Derived.Test.YtkaogeogjjcdhaaGreatDoorPkFingerSchemasXAbB
import Derived.Test.YtkaogeogjjcdhaaGreatDoorShi
import Derived.Lib.Bytealg
import Derived.Test.YtkaogeogjjcdhaaGreatDoorPkFingerSchemasXTy
import Derived.Test.YtkaogeogjjcdhaaGreatDoorShelf
import Derived.Test.YtkaogeogjjcdhaaGreatDoorPkFingerSchemasXAc
namespace Go.Proofs.YtkaogeogjjcdhaaGreatDoor
open Go.RowKit
set_option linter.unusedVariables false
set_option linter.unusedSimpArgs false
section
attribute [local go_sem] opx opE ev okx gcond bnd okO AV.get AV.okb cAV upd_at putd_some putd_none wrs_nil wrs_cons look_nil look_cons st argT_at bpick_and bpick_or bpick_true bpick_false binV binI binS binVOk binOk isShift binSOk unV unVOk loadV loadP cellsA zeroA Blkd.len setE grown moreA moreR moreOk eqRes pv fillA fillE putSeg AV.cellish AV.pureL AV.pureB lentL_is ex_some AV.ren AV.renL renL_c Blkd.ren rho wrM renN lentOk rhoE keepM endOk tyA_2 tyA_3 tyA_4 tyA_5 tyA_6 tyA_7 tyA_8 tyA_9 tyA_10 tyA_11 tyA_12 tyA_13 tyA_14 tyA_15 tyA_16 tyA_17 tyA_18 tyA_19 tyA_21 tyA_22 tyA_23 tyA_24 tyA_29 tyA_30 tyA_31 tyA_32 tyA_33 tyA_34 tyA_35 tyA_36 tyA_37 tyA_38 tyA_39 tyA_40 tyA_41 tyA_42 tyA_43 tyA_48 tyA_89 tyA_93 tyA_107 tyA_108 tyA_109 tyA_113 tyA_114 tyA_115 tyA_116 tyA_117 tyA_119 tyA_120 tyA_121 tyA_122 tyA_131 tyA_134 tyA_135 tyA_136 tyA_137 tyA_138 tyA_154 tyA_156 tyA_157 tyA_158 tyA_159 tyA_170 tyA_180 tyA_181 tyA_182 tyA_196 tyA_202 tyA_208 tyA_209 tyA_210 tyA_211 tyA_212 tyA_213 tyA_229 tyA_230 tyA_231 tyA_241 tyA_264 tyA_268 tyA_293 tyA_294 tyA_295 tyA_311 tyA_313 tyA_321 tyA_326 tyA_334 tyA_338 tyA_340 tyA_343 tyA_344 tyA_345 tyA_346 tyA_347 tyA_348 tyA_349 tyA_351 tyA_352 Option.map_some Option.map_none Option.getD_some Option.getD_none Option.bind_some Option.bind_none List.getElem?_cons_zero List.getElem?_cons_succ List.getElem?_nil List.getElem?_toArray List.length_cons List.length_nil List.length_map List.forall_mem_map List.map_cons List.map_nil List.drop_zero List.drop_succ_cons List.drop_nil List.take_zero List.take_succ_cons List.take_nil List.mem_cons List.not_mem_nil or_false forall_eq_or_imp forall_eq List.set_cons_zero List.set_cons_succ List.cons_append List.nil_append List.append_nil List.foldl_cons List.foldl_nil List.replicate_succ List.replicate_zero List.all_cons List.all_nil if_true if_false Bool.false_eq_true ne_eq not_false_eq_true not_true_eq_false true_and and_true and_self true_implies imp_self implies_true forall_const beq_self_eq_true Bool.and_true Bool.true_and Bool.and_false Bool.false_and Bool.or_true Bool.true_or Bool.or_false Bool.false_or Bool.not_true Bool.not_false Bool.not_eq_eq_eq_not intKindOf Value.oneCell' Int.toNat_natCast beq_true beq_false Bool.not_eq_true false_implies false_or true_or or_true Nat.zero_add Nat.add_zero decide_true decide_false Int.cast_ofNat_Int Int.toNat_zero Int.toNat_one eq_self

def JT.kids : JT → List JT
  | .mk _ _ _ _ xs => xs
mutual
theorem sm_le {N M : Nat} (h : N ≤ M) : ∀ t : JT, t.sm N → t.sm M
  | .mk k n s ks xs => fun ⟨h1, h2, h3, h4, h5⟩ => ⟨Nat.le_trans h1 h, Nat.le_trans h2 h, fun y hy => Nat.le_trans (h3 y hy) h, Nat.le_trans h4 h, smL_le h xs h5⟩
theorem smL_le {N M : Nat} (h : N ≤ M) : ∀ xs : List JT, JT.smL N xs → JT.smL M xs
  | [] => fun _ => trivial
  | x :: xs => fun hx => ⟨sm_le h x hx.1, smL_le h xs hx.2⟩
end
mutual
def jright (d : Nat) : JT → Bool
  | .mk k n s ks xs => jbare (.mk k n s ks xs) && jkeyed (.mk k n s ks xs) && !(decide (32 ≤ d) && (decide (k = 5) || decide (k = 6))) && jrights (d + 1) xs
def jrights (d : Nat) : List JT → Bool
  | [] => true
  | x :: xs => jright d x && jrights d xs
end
theorem jrights_any (d : Nat) : ∀ xs : List JT, (!xs.any fun x => !jright d x) = jrights d xs
  | [] => rfl
  | x :: xs => by rw [jrights, ← jrights_any d xs]; simp
set_option maxRecDepth 100000 in
set_option maxHeartbeats 400000 in
theorem right1_told {x : JT} {z : Int} {b : Bool} (h0 : 0 ≤ z) (h1 : z ≤ 32) (h : Told Tryz.prog 115 [x.av, .c (.v (.int .i64 (z + 1)))] (.c (.v (.bool b)))) : Told Tryz.prog 201 [x.av, .pp [.v (.int .i64 z)]] (.c (.v (.bool (!b)))) := by
  have hw : IntKind.i64.wrap (z + 1) = z + 1 := wrap64_id (by omega) (by omega)
  refine VC.told ent_201 Tryz.func201 rfl Tryz.ntmps201 (by simp) (by simp [AV.pureB, AV.pureL, JT.av, pureL_c]) rfl fun hb => ?_
  clear hb
  refine walkGF (And.intro @JT.av_eq (And.intro @len_cells (And.intro @take_cells (And.intro @take_cellsC hw)))) ?_
  refine walkCF (And.intro @JT.av_eq (And.intro @len_cells (And.intro @take_cells (And.intro @take_cellsC (And.intro hw @pureL_c))))) (h) ?_
  refine walkG ?_
  refine ⟨by first | exact .inr rfl | exact .inl rfl, ?_⟩; rw [Tryz.results201]; simp only [resOk, resV, go_sem, Int.reduceBEq, Int.reduceLE, Int.reduceLT, Int.reduceNeg, Nat.reduceAdd, Nat.reduceEqDiff, Nat.reduceLT, Nat.reduceLeDiff, Nat.reduceMul, Nat.reduceSub, reduceCtorEq, ↓reduceIte]
  exact .c _
theorem bare_kids {k n : Int} {s : List UInt8} {ks : List (List UInt8)} {xs : List JT} (h : jbare (.mk k n s ks xs) = true) (h5 : k ≠ 5) (h6 : k ≠ 6) : xs = [] := by
  rw [jbare] at h
  split at h
  · simp at h; exact h.2
  · split at h
    · simp at h; exact h.2
    · split at h
      · simp at h; exact h.2
      · split at h
        · simp at h; exact h.1.2
        · rw [if_neg (by simp [h5, h6])] at h
          exact absurd h (by simp)
set_option maxRecDepth 100000 in
set_option maxHeartbeats 800000 in
theorem right_told : ∀ (m : Nat) (t : JT), SizeOf.sizeOf t ≤ m → t.sm 4294967296 → ∀ (d : Nat) (z : Int), d ≤ 32 → z = (d : Int) → Told Tryz.prog 115 [t.av, .c (.v (.int .i64 z))] (.c (.v (.bool (jright d t)))) := by
  intro m
  induction m with
  | zero => intro t ht; cases t; simp at ht
  | succ m ih =>
  intro t ht hsm d z hd hz
  have hB := jbare_told t (sm_le (by omega) t hsm)
  have hKy := jkeyed_told t hsm
  have hx : ∀ x ∈ t.kids, Told Tryz.prog 115 [x.av, .c (.v (.int .i64 (z + 1)))] (.c (.v (.bool (jright (d + 1) x)))) ∨ 32 ≤ d := by
    intro x hx
    by_cases h32 : 32 ≤ d
    · exact .inr h32
    · cases t with
      | mk k n s ks xs => exact .inl (ih x (by have := List.sizeOf_lt_of_mem (show x ∈ xs from hx); simp at ht; omega) (smL_mem hsm.2.2.2.2 x hx) (d + 1) (z + 1) (by omega) (by omega))
  clear ih ht hsm
  obtain ⟨V, hV⟩ : ∃ V, V = jright d t := ⟨_, rfl⟩
  rw [← hV]
  cases t with
  | mk k n s ks xs =>
  rw [jright] at hV
  replace hx : ∀ x ∈ xs, _ := hx
  obtain ⟨b1, hb1⟩ : ∃ b1, b1 = jbare (.mk k n s ks xs) := ⟨_, rfl⟩
  obtain ⟨b2, hb2⟩ : ∃ b2, b2 = jkeyed (.mk k n s ks xs) := ⟨_, rfl⟩
  rw [← hb1] at hB hV
  rw [← hb2] at hKy hV
  simp only [JT.av, cells_mk, List.map_cons, List.map_nil] at hB hKy
  refine VC.told ent_115 Tryz.func115 rfl Tryz.ntmps115 (by simp) rfl rfl fun hb => ?_
  clear hb
  refine walkGF (And.intro @JT.av_eq @cells_mk) ?_
  refine walkCF (And.intro @JT.av_eq @cells_mk) (hB) ?_
  refine walkGF (And.intro @JT.av_eq @cells_mk) ?_
  refine walkDF (And.intro @JT.av_eq @cells_mk) (hKy) ?_
  refine walkGF (And.intro @JT.av_eq @cells_mk) ?_
  refine VC.cond (by rfl) (by trivial) (fun hc => ?_) (fun hc => ?_)
  · have hVf : V = false := by
      rw [hV]
      cases b1 <;> cases b2 <;> simp_all
      omega
    rw [hVf]
    refine walkG ?_
    refine ⟨by first | exact .inr rfl | exact .inl rfl, ?_⟩; rw [Tryz.results115]; simp only [resOk, resV, go_sem, Int.reduceBEq, Int.reduceLE, Int.reduceLT, Int.reduceNeg, Nat.reduceAdd, Nat.reduceEqDiff, Nat.reduceLT, Nat.reduceLeDiff, Nat.reduceMul, Nat.reduceSub, reduceCtorEq, ↓reduceIte]
    exact .c _
  · have hb12 : b1 = true ∧ b2 = true ∧ (32 ≤ d → k ≠ 5 ∧ k ≠ 6) := by
      cases b1 <;> cases b2 <;> simp_all
      intro h32
      exact hc (by omega)
    obtain ⟨rfl, rfl, hk56⟩ := hb12
    have hx2 : ∀ x ∈ xs, Told Tryz.prog 115 [x.av, .c (.v (.int .i64 (z + 1)))] (.c (.v (.bool (jright (d + 1) x)))) := by
      intro x hxm
      rcases hx x hxm with h | h
      · exact h
      · obtain ⟨h5, h6⟩ := hk56 h
        rw [bare_kids hb1.symm h5 h6] at hxm
        simp at hxm
    have hVt : V = jrights (d + 1) xs := by
      rw [hV]
      by_cases h32 : 32 ≤ d
      · obtain ⟨h5, h6⟩ := hk56 h32
        simp [h5, h6]
      · simp [h32]
    have hF := cnfJ_told (g := 201) (fs := []) (cs := [.pp [.v (.int .i64 z)]]) rfl rfl xs (fun x => !jright (d + 1) x) fun x hxm => right1_told (by omega) (by omega) (hx2 x hxm)
    refine VC.skip ?_; refine SQ.normal ?_
    refine VC.frz [8] [(2, .ref 0 1 0 0), (3, .pp [.v (.int .i64 z)])] [(0, ⟨false, 36, 5, [(JT.mk k n s ks xs).cells.map .c]⟩)] 400 ?_ ?_
    · simp only [cells_mk, WeakF, used_is, sc_any, sc_c, sc_pp, sc_ref, sc_row, sc_agg, sc_fn, ScL, some_imp, List.forall_mem_map, go_sem, Int.reduceBEq, Int.reduceLE, Int.reduceLT, Int.reduceNeg, Nat.reduceAdd, Nat.reduceEqDiff, Nat.reduceLT, Nat.reduceLeDiff, Nat.reduceMul, Nat.reduceSub, reduceCtorEq, ↓reduceIte]
      exact ⟨⟨.same _, .ref (es := [.v (.int .i64 z)]) (by simp) rfl rfl rfl rfl⟩, .same _⟩
    refine walkGF (@cells_mk) ?_
    refine walkCF (@cells_mk) (hF) ?_
    refine walkG ?_
    refine ⟨by first | exact .inr rfl | exact .inl rfl, ?_⟩; rw [Tryz.results115]; simp only [resOk, resV, go_sem, Int.reduceBEq, Int.reduceLE, Int.reduceLT, Int.reduceNeg, Nat.reduceAdd, Nat.reduceEqDiff, Nat.reduceLT, Nat.reduceLeDiff, Nat.reduceMul, Nat.reduceSub, reduceCtorEq, ↓reduceIte]
    rw [hVt, ← jrights_any]
    exact .c _
def jR (t : JT) : Bool := jright 0 t
set_option maxRecDepth 100000 in
set_option maxHeartbeats 400000 in
theorem jRight_told (t : JT) (ht : t.sm 4294967296) : Told Tryz.prog 76 [t.av] (.c (.v (.bool (jR t)))) := by
  have h := right_told _ t (Nat.le_refl _) ht 0 0 (by omega) rfl
  refine VC.told ent_76 Tryz.func76 rfl Tryz.ntmps76 (by simp) (by simp [AV.pureB, AV.pureL, JT.av, pureL_c]) rfl fun hb => ?_
  clear hb
  refine walkGF (And.intro @JT.av_eq (And.intro @len_cells (And.intro @take_cells @take_cellsC))) ?_
  refine walkCF (And.intro @JT.av_eq (And.intro @len_cells (And.intro @take_cells (And.intro @take_cellsC @pureL_c)))) (h) ?_
  refine walkG ?_
  refine ⟨by first | exact .inr rfl | exact .inl rfl, ?_⟩; rw [Tryz.results76]; simp only [resOk, resV, go_sem, Int.reduceBEq, Int.reduceLE, Int.reduceLT, Int.reduceNeg, Nat.reduceAdd, Nat.reduceEqDiff, Nat.reduceLT, Nat.reduceLeDiff, Nat.reduceMul, Nat.reduceSub, reduceCtorEq, ↓reduceIte]
  exact .c _
end

theorem nodup_of {ks : List (List UInt8)} (h : (Lib.compact (srt ks)).length = ks.length) : ks.Nodup := by
  have hperm : (srt ks).Perm ks := List.mergeSort_perm ks _
  have hlen := srt_len ks
  have hsort : (srt ks).Pairwise fun a b => a ≤ b := by
    have := List.pairwise_mergeSort (le := fun x y : List UInt8 => decide (x ≤ y)) (fun a b c h1 h2 => by simp only [decide_eq_true_eq] at h1 h2 ⊢; exact List.le_trans h1 h2) (fun a b => by simp only [Bool.or_eq_true, decide_eq_true_eq]; exact List.le_total a b) ks
    exact this.imp fun h => by simpa using h
  generalize srt ks = L at h hperm hlen hsort
  refine hperm.nodup_iff.1 ?_
  have hk : ∀ j, j < L.length → Lib.keeps L.toArray j = true := by
    rw [← hlen] at h
    unfold Lib.compact Lib.compactUpTo at h
    rw [List.length_map] at h
    have h2 : ((List.range L.length).filter (Lib.keeps L.toArray)).length = (List.range L.length).length := by rw [h, List.length_range]
    intro j hj
    exact List.length_filter_eq_length_iff.1 h2 j (List.mem_range.2 hj)
  rw [List.nodup_iff_pairwise_ne, List.pairwise_iff_getElem]
  intro i j hi hj hij heq
  have h1 := List.pairwise_iff_getElem.1 hsort
  have hk1 := hk (i + 1) (by omega)
  have hle1 := h1 i (i + 1) hi (by omega) (by omega)
  have hle2 : L[i + 1]'(by omega) ≤ L[j] := by
    rcases Nat.lt_or_ge (i + 1) j with h2 | h2
    · exact h1 (i + 1) j (by omega) hj h2
    · have : i + 1 = j := by omega
      subst this
      exact List.le_refl _
  rw [← heq] at hle2
  have he := List.le_antisymm hle1 hle2
  unfold Lib.keeps at hk1
  have g1 : L.toArray[i + 1]! = L[i + 1]'(by omega) := by simp [show i + 1 < L.length by omega]
  have g2 : L.toArray[i + 1 - 1]! = L[i] := by simp [hi]
  rw [g1, g2, he] at hk1
  simp at hk1
theorem compact_nodup {ks : List (List UInt8)} (h : ks.Nodup) : (Lib.compact (srt ks)).length = ks.length := by
  have hperm : (srt ks).Perm ks := List.mergeSort_perm ks _
  have hlen := srt_len ks
  have hnd := hperm.nodup_iff.2 h
  generalize srt ks = L at hperm hlen hnd ⊢
  have hk : ∀ j, j < L.length → Lib.keeps L.toArray j = true := by
    intro j hj
    unfold Lib.keeps
    by_cases h0 : j = 0
    · simp [h0]
    · have g1 : L.toArray[j]! = L[j] := by simp [hj]
      have g2 : L.toArray[j - 1]! = L[j - 1]'(by omega) := by simp [show j - 1 < L.length by omega]
      rw [g1, g2]
      have := List.pairwise_iff_getElem.1 (List.nodup_iff_pairwise_ne.1 hnd) (j - 1) j (by omega) hj (by omega)
      exact decide_eq_true (.inr fun e => this e.symm)
  unfold Lib.compact Lib.compactUpTo
  rw [List.length_map, List.length_filter_eq_length_iff.2 fun j hj => hk j (List.mem_range.1 hj), List.length_range, hlen]

def rfail : JT → Bool
  | .mk k n s ks xs => decide (k < 1) || decide (k > 6) || (decide (k ≠ 2) && decide (k ≠ 3) && decide (n ≠ 0)) || (decide (k = 2) && decide (n ≠ 0) && decide (n ≠ 1)) || (decide (k ≠ 4) && !s.isEmpty) || !isRight s
      || (decide (k < 5) && !xs.isEmpty) || (decide (k ≠ 6) && !ks.isEmpty) || (decide (k = 6) && decide (ks.length ≠ xs.length))
mutual
def rshape : JT → Bool
  | .mk k n s ks xs => !rfail (.mk k n s ks xs) && (ks.all isRight && decide ks.Nodup) && rshapes xs
def rshapes : List JT → Bool
  | [] => true
  | x :: xs => rshape x && rshapes xs
end
theorem right_empty : isRight [] = true := by decide +kernel
theorem deeps_le (m : Nat) : ∀ (xs : List JT) (n : Nat), tdeeps n xs ≤ m ↔ n ≤ m ∧ ∀ x ∈ xs, 1 + tdeep x ≤ m
  | [], n => by simp [tdeeps]
  | x :: xs, n => by
    rw [tdeeps, deeps_le m xs]
    simp only [List.mem_cons, forall_eq_or_imp]
    constructor
    · rintro ⟨h1, h2⟩; exact ⟨by omega, by omega, h2⟩
    · rintro ⟨h1, h2, h3⟩; exact ⟨by omega, h3⟩
theorem keyed_iff {k n : Int} {s : List UInt8} {ks : List (List UInt8)} {xs : List JT} : jkeyed (.mk k n s ks xs) = ((if k ≠ 6 then ks.isEmpty else decide (ks.length = xs.length)) && (ks.all isRight && decide ks.Nodup)) := by
  rw [jkeyed]
  by_cases h6 : k = 6
  · rw [if_neg (by simp [h6]), if_neg (by simp [h6])]
    have : decide ((Lib.compact (srt ks)).length = ks.length) = decide ks.Nodup := by
      rw [Bool.eq_iff_iff]
      simp only [decide_eq_true_eq]
      exact ⟨nodup_of, compact_nodup⟩
    rw [this, Bool.and_comm (ks.all isRight)]
  · rw [if_pos h6, if_pos h6]
    cases ks with
    | nil => simp
    | cons y ks => simp
theorem bare_iff (k n : Int) (s : List UInt8) (ks : List (List UInt8)) (xs : List JT) : (jbare (.mk k n s ks xs) && (if k ≠ 6 then ks.isEmpty else decide (ks.length = xs.length))) = !rfail (.mk k n s ks xs) := by
  rw [Bool.eq_iff_iff]
  unfold rfail
  rw [jbare]
  have hr := right_empty
  by_cases h1 : k = 1
  · subst h1; cases s <;> cases xs <;> cases ks <;> simp [hr]
  by_cases h2 : k = 2
  · subst h2; cases s <;> cases xs <;> cases ks <;> simp [hr]
    all_goals omega
  by_cases h3 : k = 3
  · subst h3; cases s <;> cases xs <;> cases ks <;> simp [hr]
  by_cases h4 : k = 4
  · subst h4; cases s <;> cases xs <;> cases ks <;> simp [hr]
  by_cases h5 : k = 5
  · subst h5; cases s <;> cases xs <;> cases ks <;> simp [hr]
  by_cases h6 : k = 6
  · subst h6; cases s <;> cases xs <;> cases ks <;> simp [hr]
  · have : k < 1 ∨ k > 6 := by omega
    simp [h1, h2, h3, h4, h5, h6, this]
    omega
mutual
theorem right_shape (d : Nat) (hd : d ≤ 32) : ∀ t : JT, jright d t = (decide (d + tdeep t ≤ 32) && rshape t)
  | .mk k n s ks xs => by
    rw [jright, rshape, keyed_iff, ← bare_iff, tdeep]
    by_cases hb : jbare (.mk k n s ks xs) = true
    · by_cases h56 : k = 5 ∨ k = 6
      · rw [if_pos h56]
        by_cases h32 : d = 32
        · subst h32
          have := (deeps_le 0 xs 1)
          have h1 : ¬ 32 + tdeeps 1 xs ≤ 32 := by
            intro h
            have := (deeps_le 0 xs 1).1 (by omega)
            omega
          rw [Bool.eq_iff_iff]
          simp [h1]
          omega
        · rw [rights_shapes (d + 1) (by omega) xs]
          have h2 : decide (d + tdeeps 1 xs ≤ 32) = (xs.all fun x => decide (d + 1 + tdeep x ≤ 32)) := by
            rw [Bool.eq_iff_iff]
            simp only [decide_eq_true_eq, List.all_eq_true]
            have := deeps_le (32 - d) xs 1
            constructor
            · intro h x hx
              have := (this.1 (by omega)).2 x hx
              omega
            · intro h
              have := this.2 ⟨by omega, fun x hx => by have := h x hx; omega⟩
              omega
          have h3 : decide (32 ≤ d) = false := by simp; omega
          rw [h2, hb, h3]
          simp only [Bool.false_and, Bool.not_false, Bool.and_true, Bool.true_and]
          generalize (xs.all fun x => decide (d + 1 + tdeep x ≤ 32)) = A
          generalize ((if k ≠ 6 then ks.isEmpty else decide (ks.length = xs.length)) && (ks.all isRight && decide ks.Nodup)) = Z
          cases A <;> cases Z <;> simp
      · rw [if_neg h56, bare_kids hb (fun h => h56 (.inl h)) (fun h => h56 (.inr h))]
        have h5 : decide (k = 5) = false := by simp; exact fun h => h56 (.inl h)
        have h6 : decide (k = 6) = false := by simp; exact fun h => h56 (.inr h)
        rw [h5, h6]
        simp [jrights, rshapes, hd, Bool.and_assoc]
    · simp [hb]
theorem rights_shapes (d : Nat) (hd : d ≤ 32) : ∀ xs : List JT, jrights d xs = ((xs.all fun x => decide (d + tdeep x ≤ 32)) && rshapes xs)
  | [] => rfl
  | x :: xs => by
    rw [jrights, rshapes, right_shape d hd x, rights_shapes d hd xs, List.all_cons]
    cases decide (d + tdeep x ≤ 32) <;> cases rshape x <;> simp
end
theorem jR_shape (t : JT) : jR t = (decide (tdeep t ≤ 32) && rshape t) := by
  unfold jR
  rw [right_shape 0 (by omega) t, Nat.zero_add]
section
attribute [local go_sem] opx opE ev okx gcond bnd okO AV.get AV.okb cAV upd_at putd_some putd_none wrs_nil wrs_cons look_nil look_cons st argT_at bpick_and bpick_or bpick_true bpick_false binV binI binS binVOk binOk isShift binSOk unV unVOk loadV loadP cellsA zeroA Blkd.len setE grown moreA moreR moreOk eqRes pv fillA fillE putSeg AV.cellish AV.pureL AV.pureB lentL_is ex_some AV.ren AV.renL renL_c Blkd.ren rho wrM renN lentOk rhoE keepM endOk tyA_2 tyA_3 tyA_4 tyA_5 tyA_6 tyA_7 tyA_8 tyA_9 tyA_10 tyA_11 tyA_12 tyA_13 tyA_14 tyA_15 tyA_16 tyA_17 tyA_18 tyA_19 tyA_21 tyA_22 tyA_23 tyA_24 tyA_29 tyA_30 tyA_31 tyA_32 tyA_33 tyA_34 tyA_35 tyA_36 tyA_37 tyA_38 tyA_39 tyA_40 tyA_41 tyA_42 tyA_43 tyA_48 tyA_89 tyA_93 tyA_107 tyA_108 tyA_109 tyA_113 tyA_114 tyA_115 tyA_116 tyA_117 tyA_119 tyA_120 tyA_121 tyA_122 tyA_131 tyA_134 tyA_135 tyA_136 tyA_137 tyA_138 tyA_154 tyA_156 tyA_157 tyA_158 tyA_159 tyA_170 tyA_180 tyA_181 tyA_182 tyA_196 tyA_202 tyA_208 tyA_209 tyA_210 tyA_211 tyA_212 tyA_213 tyA_229 tyA_230 tyA_231 tyA_241 tyA_264 tyA_268 tyA_293 tyA_294 tyA_295 tyA_311 tyA_313 tyA_321 tyA_326 tyA_334 tyA_338 tyA_340 tyA_343 tyA_344 tyA_345 tyA_346 tyA_347 tyA_348 tyA_349 tyA_351 tyA_352 Option.map_some Option.map_none Option.getD_some Option.getD_none Option.bind_some Option.bind_none List.getElem?_cons_zero List.getElem?_cons_succ List.getElem?_nil List.getElem?_toArray List.length_cons List.length_nil List.length_map List.forall_mem_map List.map_cons List.map_nil List.drop_zero List.drop_succ_cons List.drop_nil List.take_zero List.take_succ_cons List.take_nil List.mem_cons List.not_mem_nil or_false forall_eq_or_imp forall_eq List.set_cons_zero List.set_cons_succ List.cons_append List.nil_append List.append_nil List.foldl_cons List.foldl_nil List.replicate_succ List.replicate_zero List.all_cons List.all_nil if_true if_false Bool.false_eq_true ne_eq not_false_eq_true not_true_eq_false true_and and_true and_self true_implies imp_self implies_true forall_const beq_self_eq_true Bool.and_true Bool.true_and Bool.and_false Bool.false_and Bool.or_true Bool.true_or Bool.or_false Bool.false_or Bool.not_true Bool.not_false Bool.not_eq_eq_eq_not intKindOf Value.oneCell' Int.toNat_natCast beq_true beq_false Bool.not_eq_true false_implies false_or true_or or_true Nat.zero_add Nat.add_zero decide_true decide_false Int.cast_ofNat_Int Int.toNat_zero Int.toNat_one eq_self

theorem taken_next {α : Type} [DecidableEq α] {ks ls : List α} {i : Nat} {x y : α} (hx : ks[i]? = some x) (hy : ls[i]? = some y) (ht : ks.take i = ls.take i) : ks.take (i + 1) = ls.take (i + 1) ↔ x = y := by
  rw [List.take_add_one, List.take_add_one, hx, hy, ht]
  simp
set_option maxRecDepth 100000 in
set_option maxHeartbeats 400000 in
theorem sequal_told (ks ls : List (List UInt8)) : Told Tryz.prog 66 [.c (.sl 1 (ks.map sPV)), .c (.sl 1 (ls.map sPV))] (.c (.v (.bool (ks == ls)))) := by
  refine VC.told ent_66 Tryz.func66 rfl Tryz.ntmps66 (by simp) rfl rfl fun hb => ?_
  simp only [abd_c, pbd_sl, List.mem_cons, List.not_mem_nil, or_false, forall_eq_or_imp, forall_eq, List.length_map] at hb
  have h1 := hb.1.1
  have h2 := hb.2.1
  clear hb
  refine walkG ?_
  refine VC.cond (by rfl) (by trivial) (fun hc => ?_) (fun hc => ?_)
  · have hne : (ks == ls) = false := by
      rw [beq_eq_false_iff_ne]
      intro e
      subst e
      simp at hc
    refine walkG ?_
    refine ⟨.inr rfl, ?_⟩
    rw [Tryz.results66, hne]
    simp only [resOk, resV, go_sem, Int.reduceBEq, Int.reduceLE, Int.reduceLT, Int.reduceNeg, Nat.reduceAdd, Nat.reduceEqDiff, Nat.reduceLT, Nat.reduceLeDiff, Nat.reduceMul, Nat.reduceSub, reduceCtorEq, ↓reduceIte]
    exact .c _
  · have hlen : ks.length = ls.length := by
      simp at hc
      omega
    refine walkG ?_
    refine VC.loop (ι := {i : Nat // i ≤ ks.length ∧ ks.take i = ls.take i}) (fun i => [(0, .c (.sl 1 (ks.map sPV))), (1, .c (.sl 1 (ls.map sPV))), (12, .c (.v (.int .i64 ks.length))), (13, .c (.v (.int .i64 i.1)))]) (fun _ => []) 0 (fun i => ks.length - i.1) ⟨0, Nat.zero_le _, rfl⟩ ?_ ?_
    · simp only [Weak, eq_self, used_is, sc_any, sc_c, sc_pp, sc_ref, sc_row, sc_agg, sc_fn, ScL, some_imp, List.forall_mem_map, go_sem, Int.reduceBEq, Int.reduceLE, Int.reduceLT, Int.reduceNeg, Nat.reduceAdd, Nat.reduceEqDiff, Nat.reduceLT, Nat.reduceLeDiff, Nat.reduceMul, Nat.reduceSub, reduceCtorEq, ↓reduceIte]
      all_goals rfl
    rintro ⟨i, hi, ht⟩
    refine walkG ?_
    refine VC.cond (by rfl) (by trivial) (fun hc => ?_) (fun hc => ?_)
    · simp only [decide_eq_true_eq] at hc
      obtain ⟨x, hx⟩ : ∃ x, ks[i]? = some x := ⟨ks[i], List.getElem?_eq_getElem (by omega)⟩
      obtain ⟨y, hy⟩ : ∃ y, ls[i]? = some y := ⟨ls[i], List.getElem?_eq_getElem (by omega)⟩
      have hw : IntKind.i64.wrap ((i : Int) + 1) = (i : Int) + 1 := wrap64_id (by omega) (by omega)
      have htn := taken_next hx hy ht
      (repeat (first | refine pass ?_ | refine VC.region (by rfl) (by rfl) ?_ | (refine AO.step fun K hK => ?_; simp only [List.getElem?_map, hx, hy, sPV, str_toList, go_sem, Int.reduceBEq, Int.reduceLE, Int.reduceLT, Int.reduceNeg, Nat.reduceAdd, Nat.reduceEqDiff, Nat.reduceLT, Nat.reduceLeDiff, Nat.reduceMul, Nat.reduceSub, reduceCtorEq, ↓reduceIte]; (first | refine gsel_skip ?_ | refine gsel_go ?_ | skip); (first | refine hK _ _ _ ?_ | refine ⟨by first | omega | exact ⟨_, rfl, rfl⟩ | exact fun _ => ⟨_, rfl, rfl⟩ | (intro h; simp only [List.getElem?_map, hx, hy, sPV, str_toList, h, true_and]; omega) | (clear hK; intro h; simp_all <;> omega), hK _ _ _ ?_⟩); clear hK K) | refine VC.draw mixP (by rfl) (by rfl) ?_ | refine ⟨okd_of (by kernel_rfl), ?_⟩ | refine BQ.other (by decide) ?_ | refine VC.seq ?_ | refine AO.nil ?_ | refine VC.block ?_))
      refine VC.cond (by rfl) (by trivial) (fun hc2 => ?_) (fun hc2 => ?_)
      · have hne : (ks == ls) = false := by
          rw [beq_eq_false_iff_ne]
          intro e
          subst e
          rw [hx] at hy
          obtain rfl := Option.some.inj hy
          simp at hc2
        refine walkG ?_
        refine ⟨.inr rfl, ?_⟩
        rw [Tryz.results66, hne]
        simp only [resOk, resV, go_sem, Int.reduceBEq, Int.reduceLE, Int.reduceLT, Int.reduceNeg, Nat.reduceAdd, Nat.reduceEqDiff, Nat.reduceLT, Nat.reduceLeDiff, Nat.reduceMul, Nat.reduceSub, reduceCtorEq, ↓reduceIte]
        exact .c _
      · have hxy : x = y := by simpa using hc2
        refine walkGF (hw) ?_
        refine .next ⟨i + 1, by omega, htn.2 hxy⟩ ?_ (by simp only []; omega)
        simp only [Weak, eq_self, used_is, sc_any, sc_c, sc_pp, sc_ref, sc_row, sc_agg, sc_fn, ScL, some_imp, List.forall_mem_map, go_sem, Int.reduceBEq, Int.reduceLE, Int.reduceLT, Int.reduceNeg, Nat.reduceAdd, Nat.reduceEqDiff, Nat.reduceLT, Nat.reduceLeDiff, Nat.reduceMul, Nat.reduceSub, reduceCtorEq, ↓reduceIte]
        exact cI (by omega)
    · simp only [decide_eq_false_iff_not] at hc
      obtain rfl : i = ks.length := by omega
      have heq : (ks == ls) = true := by
        rw [List.take_length, hlen, List.take_length] at ht
        simp [ht]
      refine walkG ?_
      refine ⟨.inr rfl, ?_⟩
      rw [Tryz.results66, heq]
      simp only [resOk, resV, go_sem, Int.reduceBEq, Int.reduceLE, Int.reduceLT, Int.reduceNeg, Nat.reduceAdd, Nat.reduceEqDiff, Nat.reduceLT, Nat.reduceLeDiff, Nat.reduceMul, Nat.reduceSub, reduceCtorEq, ↓reduceIte]
      exact .c _
noncomputable def jeq (a b : JT) : Bool := @decide (a = b) (Classical.propDecidable _)
theorem jeq_iff (a b : JT) : jeq a b = true ↔ a = b := by simp [jeq]
theorem jeq_false (a b : JT) : jeq a b = false ↔ a ≠ b := by simp [jeq]
theorem jeq_self (a : JT) : jeq a a = true := (jeq_iff a a).2 rfl
noncomputable def jeqL (a b : List JT) : Bool := @decide (a = b) (Classical.propDecidable _)
theorem jeqL_iff (a b : List JT) : jeqL a b = true ↔ a = b := by simp [jeqL]
theorem jeqL_false (a b : List JT) : jeqL a b = false ↔ a ≠ b := by simp [jeqL]
theorem jeq_mk (k n k' n' : Int) (s s' : List UInt8) (ks ks' : List (List UInt8)) (xs xs' : List JT) : jeq (.mk k n s ks xs) (.mk k' n' s' ks' xs') = ((((k == k' && n == n') && s == s') && ks == ks') && jeqL xs xs') := by
  rw [Bool.eq_iff_iff]
  simp only [jeq_iff, Bool.and_eq_true, beq_iff_eq, jeqL_iff, JT.mk.injEq]
  constructor
  · rintro ⟨rfl, rfl, rfl, rfl, rfl⟩; simp
  · rintro ⟨⟨⟨⟨rfl, rfl⟩, rfl⟩, rfl⟩, rfl⟩; simp
set_option maxRecDepth 100000 in
set_option maxHeartbeats 400000 in
theorem eqfunc_told (xs ys : List JT) (hcall : ∀ x ∈ xs, ∀ y, Told Tryz.prog 104 [x.av, y.av] (.c (.v (.bool (jeq x y))))) :
    Told Tryz.prog 188 [.c (.sl 5 (xs.map JT.cells)), .c (.sl 5 (ys.map JT.cells)), .fn (.func 104) [] []] (.c (.v (.bool (jeqL xs ys)))) := by
  refine VC.told ent_188 Tryz.func188 rfl Tryz.ntmps188 (by simp) rfl rfl fun hb => ?_
  simp only [abd_c, pbd_sl, List.mem_cons, List.not_mem_nil, or_false, forall_eq_or_imp, forall_eq, List.length_map] at hb
  have h1 := hb.1.1
  have h2 := hb.2.1.1
  clear hb
  refine walkG ?_
  refine VC.cond (by rfl) (by trivial) (fun hc => ?_) (fun hc => ?_)
  · have hne : jeqL xs ys = false := by
      rw [jeqL_false]
      intro e
      subst e
      simp at hc
    refine walkG ?_
    refine ⟨.inr rfl, ?_⟩
    rw [Tryz.results188, hne]
    simp only [resOk, resV, go_sem, Int.reduceBEq, Int.reduceLE, Int.reduceLT, Int.reduceNeg, Nat.reduceAdd, Nat.reduceEqDiff, Nat.reduceLT, Nat.reduceLeDiff, Nat.reduceMul, Nat.reduceSub, reduceCtorEq, ↓reduceIte]
    exact .c _
  · have hlen : xs.length = ys.length := by
      simp at hc
      omega
    refine walkG ?_
    refine VC.loop (ι := {i : Nat // i ≤ xs.length ∧ xs.take i = ys.take i}) (fun i => [(1, .c (.sl 5 (ys.map JT.cells))), (2, .fn (.func 104) [] []), (15, .c (.sl 5 (xs.map JT.cells))), (16, .c (.v (.int .i64 xs.length))), (17, .c (.v (.int .i64 i.1)))]) (fun _ => []) 0 (fun i => xs.length - i.1) ⟨0, Nat.zero_le _, rfl⟩ ?_ ?_
    · simp only [Weak, eq_self, used_is, sc_any, sc_c, sc_pp, sc_ref, sc_row, sc_agg, sc_fn, ScL, some_imp, List.forall_mem_map, go_sem, Int.reduceBEq, Int.reduceLE, Int.reduceLT, Int.reduceNeg, Nat.reduceAdd, Nat.reduceEqDiff, Nat.reduceLT, Nat.reduceLeDiff, Nat.reduceMul, Nat.reduceSub, reduceCtorEq, ↓reduceIte]
      all_goals rfl
    rintro ⟨i, hi, ht⟩
    refine walkG ?_
    refine VC.cond (by rfl) (by trivial) (fun hc => ?_) (fun hc => ?_)
    · simp only [decide_eq_true_eq] at hc
      obtain ⟨x, hx⟩ : ∃ x, xs[i]? = some x := ⟨xs[i], List.getElem?_eq_getElem (by omega)⟩
      obtain ⟨y, hy⟩ : ∃ y, ys[i]? = some y := ⟨ys[i], List.getElem?_eq_getElem (by omega)⟩
      have hw : IntKind.i64.wrap ((i : Int) + 1) = (i : Int) + 1 := wrap64_id (by omega) (by omega)
      have hcl := hcall x (List.mem_of_getElem? hx) y
      (repeat (first | refine pass ?_ | refine VC.region (by rfl) (by rfl) ?_ | (refine AO.step fun K hK => ?_; simp only [List.getElem?_map, hx, hy, len_cells, take_cells, take_cellsC, go_sem, Int.reduceBEq, Int.reduceLE, Int.reduceLT, Int.reduceNeg, Nat.reduceAdd, Nat.reduceEqDiff, Nat.reduceLT, Nat.reduceLeDiff, Nat.reduceMul, Nat.reduceSub, reduceCtorEq, ↓reduceIte]; (first | refine gsel_skip ?_ | refine gsel_go ?_ | skip); (first | refine hK _ _ _ ?_ | refine ⟨by first | omega | exact ⟨_, rfl, rfl⟩ | exact fun _ => ⟨_, rfl, rfl⟩ | (intro h; simp only [List.getElem?_map, hx, hy, len_cells, take_cells, take_cellsC, h, true_and]; omega) | (clear hK; intro h; simp_all <;> omega), hK _ _ _ ?_⟩); clear hK K) | refine VC.draw mixP (by rfl) (by rfl) ?_ | refine ⟨okd_of (by kernel_rfl), ?_⟩ | refine BQ.other (by decide) ?_ | refine VC.seq ?_ | refine AO.nil ?_ | refine VC.block ?_))
      (refine AO.step fun K hK => ?_; simp only [go_sem, Int.reduceBEq, Int.reduceLE, Int.reduceLT, Int.reduceNeg, Nat.reduceAdd, Nat.reduceEqDiff, Nat.reduceLT, Nat.reduceLeDiff, Nat.reduceMul, Nat.reduceSub, reduceCtorEq, ↓reduceIte, pureL_c]; (first | refine gsel_go ?_ | skip))
      refine .inl ⟨_, hcl, hK _ _ _ ?_⟩
      clear hK K
      refine walkG ?_
      refine VC.cond (by rfl) (by trivial) (fun hc2 => ?_) (fun hc2 => ?_)
      · have hne : jeqL xs ys = false := by
          rw [jeqL_false]
          intro e
          subst e
          rw [hx] at hy
          obtain rfl := Option.some.inj hy
          rw [jeq_self] at hc2
          simp at hc2
        refine walkG ?_
        refine ⟨.inr rfl, ?_⟩
        rw [Tryz.results188, hne]
        simp only [resOk, resV, go_sem, Int.reduceBEq, Int.reduceLE, Int.reduceLT, Int.reduceNeg, Nat.reduceAdd, Nat.reduceEqDiff, Nat.reduceLT, Nat.reduceLeDiff, Nat.reduceMul, Nat.reduceSub, reduceCtorEq, ↓reduceIte]
        exact .c _
      · have hxy : x = y := by
          rw [← jeq_iff]
          simpa using hc2
        refine walkGF (hw) ?_
        refine .next ⟨i + 1, by omega, ?_⟩ ?_ (by simp only []; omega)
        · rw [List.take_add_one, List.take_add_one, hx, hy, ht, hxy]
        simp only [Weak, eq_self, used_is, sc_any, sc_c, sc_pp, sc_ref, sc_row, sc_agg, sc_fn, ScL, some_imp, List.forall_mem_map, go_sem, Int.reduceBEq, Int.reduceLE, Int.reduceLT, Int.reduceNeg, Nat.reduceAdd, Nat.reduceEqDiff, Nat.reduceLT, Nat.reduceLeDiff, Nat.reduceMul, Nat.reduceSub, reduceCtorEq, ↓reduceIte]
        exact cI (by omega)
    · simp only [decide_eq_false_iff_not] at hc
      obtain rfl : i = xs.length := by omega
      have heq : jeqL xs ys = true := by
        rw [List.take_length, hlen, List.take_length] at ht
        rw [jeqL_iff, ht]
      refine walkG ?_
      refine ⟨.inr rfl, ?_⟩
      rw [Tryz.results188, heq]
      simp only [resOk, resV, go_sem, Int.reduceBEq, Int.reduceLE, Int.reduceLT, Int.reduceNeg, Nat.reduceAdd, Nat.reduceEqDiff, Nat.reduceLT, Nat.reduceLeDiff, Nat.reduceMul, Nat.reduceSub, reduceCtorEq, ↓reduceIte]
      exact .c _
set_option maxRecDepth 100000 in
set_option maxHeartbeats 400000 in
theorem same_told : ∀ (m : Nat) (a b : JT), SizeOf.sizeOf a ≤ m → Told Tryz.prog 104 [a.av, b.av] (.c (.v (.bool (jeq a b)))) := by
  intro m
  induction m with
  | zero => intro a b ha; cases a; simp at ha
  | succ m ih =>
  intro a b ha
  cases a with
  | mk k n s ks xs =>
  cases b with
  | mk k' n' s' ks' xs' =>
  refine VC.told ent_104 Tryz.func104 rfl Tryz.ntmps104 (by simp) rfl rfl fun hb => ?_
  clear hb
  simp only [JT.av, cells_mk, List.map_cons, List.map_nil]
  have hE := eqfunc_told xs xs' fun x hx y => ih x y (by
    have h1 := List.sizeOf_lt_of_mem hx
    simp at ha
    omega)
  refine walkGF (@str_toList) ?_
  (refine AO.step fun K hK => ?_; simp only [go_sem, Int.reduceBEq, Int.reduceLE, Int.reduceLT, Int.reduceNeg, Nat.reduceAdd, Nat.reduceEqDiff, Nat.reduceLT, Nat.reduceLeDiff, Nat.reduceMul, Nat.reduceSub, reduceCtorEq, ↓reduceIte]; (first | refine gsel_go ?_ | skip))
  refine .inl ⟨_, fun _ => sequal_told ks ks', hK _ _ _ ?_⟩
  clear hK K
  refine walkG ?_
  (refine AO.step fun K hK => ?_; simp only [go_sem, Int.reduceBEq, Int.reduceLE, Int.reduceLT, Int.reduceNeg, Nat.reduceAdd, Nat.reduceEqDiff, Nat.reduceLT, Nat.reduceLeDiff, Nat.reduceMul, Nat.reduceSub, reduceCtorEq, ↓reduceIte]; (first | refine gsel_go ?_ | skip))
  refine .inl ⟨_, fun _ => hE, hK _ _ _ ?_⟩
  clear hK K
  refine walkG ?_
  refine ⟨.inr rfl, ?_⟩
  rw [Tryz.results104]
  simp only [resOk, resV, go_sem, Int.reduceBEq, Int.reduceLE, Int.reduceLT, Int.reduceNeg, Nat.reduceAdd, Nat.reduceEqDiff, Nat.reduceLT, Nat.reduceLeDiff, Nat.reduceMul, Nat.reduceSub, reduceCtorEq, ↓reduceIte]
  rw [jeq_mk]
  exact .c _
end

/-! Names. -/
def isLet (c : UInt8) : Bool := (decide (97 ≤ c.toNat) && decide (c.toNat ≤ 122)) || ((decide (65 ≤ c.toNat) && decide (c.toNat ≤ 90)) || decide (c.toNat = 95))
def isDig (c : UInt8) : Bool := decide (48 ≤ c.toNat) && decide (c.toNat ≤ 57)
def simp1 : List UInt8 → Bool
  | [] => false
  | c :: cs => isLet c && cs.all fun c => isLet c || isDig c
def simpleM (s : List UInt8) : Bool := decide (s.length ≤ 100) && simp1 s
def fullF : Nat → List UInt8 → Bool
  | 0, _ => false
  | n + 1, s => simp1 (s.takeWhile (· != 46)) && (match s.dropWhile (· != 46) with | [] => true | _ :: r => fullF n r)
def fullM (s : List UInt8) : Bool := decide (s.length ≤ 100) && fullF (s.length + 1) s
theorem fullF_fuel : ∀ (n m : Nat) (s : List UInt8), s.length < n → s.length < m → fullF n s = fullF m s
  | 0, _, _, h, _ => by omega
  | _, 0, _, _, h => by omega
  | n + 1, m + 1, s, h1, h2 => by
    rw [fullF, fullF]
    congr 1
    have hd : (s.dropWhile (· != 46)).length ≤ s.length := (List.dropWhile_sublist _).length_le
    split
    · rfl
    · rename_i x r hr
      rw [hr] at hd
      simp at hd
      exact fullF_fuel n m r (by omega) (by omega)
def kwords : List (List UInt8) := [[], [110, 117, 108, 108], [98, 111, 111, 108, 101, 97, 110], [105, 110, 116], [108, 111, 110, 103], [102, 108, 111, 97, 116], [100, 111, 117, 98, 108, 101], [98, 121, 116, 101, 115], [115, 116, 114, 105, 110, 103], [114, 101, 99, 111, 114, 100], [101, 110, 117, 109], [97, 114, 114, 97, 121], [109, 97, 112], [], [102, 105, 120, 101, 100]]
def kindM (s : List UInt8) : Nat := if s = [] then 0 else match kwords.findIdx? (· == s) with | some i => i | none => 0
/-! Schemas that may be. -/
def diffM (rule : List UInt8 → Bool) (l : List (List UInt8)) : Bool := l.all rule && decide l.Nodup
def allM (rule : List UInt8 → Bool) (l : List (List UInt8)) : Bool := decide (l.length ≤ 40) && l.all rule
def jzero : JT := .mk 0 0 [] [] []
def bareM (n : NT) : Bool :=
  (namedK n.kind || (n.name.isEmpty && n.aliases.isEmpty)) && ((n.kind == 9 || n.fields.isEmpty) && ((n.kind == 10 || (n.symbols.isEmpty && (!n.has && n.dflt.isEmpty))) && ((n.kind == 14 || n.size == 0) && ((n.kind == 11 || n.kind == 12 || n.items == 0) && (n.kind == 13 || n.branches.isEmpty)))))
noncomputable def fieldM (f : FT) : Bool := allM simpleM f.aliases && (if f.has = true then jR f.dflt else jeq f.dflt jzero)
noncomputable def fieldsM (l : List FT) : Bool := l.all fieldM && (decide (l.length ≤ 40) && diffM simpleM (l.map (·.name)))
def branchM (ns : List NT) (l : List Int) (k : Int) : Bool := kindAt ns k.toNat != 13 && !l.any fun m => m == k || (!namedK (kindAt ns k.toNat) && kindAt ns m.toNat == kindAt ns k.toNat)
def branchesM (ns : List NT) : List Int → List Int → Bool
  | _, [] => true
  | l, k :: ks => branchM ns l k && branchesM ns (l ++ [k]) ks
def unionM (ns : List NT) (l : List Int) : Bool := decide (1 ≤ l.length) && (decide (l.length ≤ 10) && branchesM ns [] l)
noncomputable def nodeM (ns : List NT) (n : NT) : Bool :=
  (decide (1 ≤ n.kind) && (decide (n.kind ≤ 14) && bareM n)) && ((!namedK n.kind || (fullM n.name && (kindM n.name == 0 && allM fullM n.aliases))) && (
    if n.kind = 9 then fieldsM n.fields else if n.kind = 10 then ((n.has == n.symbols.contains n.dflt) && (n.has || n.dflt.isEmpty)) && (decide (1 ≤ n.symbols.length) && (decide (n.symbols.length ≤ 40) && diffM simpleM n.symbols))
    else if n.kind = 14 then decide (0 ≤ n.size) && decide (n.size ≤ 1000) else if n.kind = 13 then unionM ns n.branches else true))
def weighK (f : Nat → List Int → Int × List Int) : List FT → Int → List Int → Int × List Int
  | [], n, kn => (n, kn)
  | x :: xs, n, kn => weighK f xs (min (n + (f x.type.toNat kn).1) 1001) (f x.type.toNat kn).2
def knAt (kn : List Int) (k : Nat) : Int := match kn[k]? with | some n => n | none => 0
def fieldsAt (ns : List NT) (k : Nat) : List FT := match ns[k]? with | some n => (if n.kind = 9 then n.fields else []) | none => []
def weighM (ns : List NT) : Nat → Nat → List Int → Int × List Int
  | 0, _, kn => (1001, kn)
  | d + 1, p, kn => if knAt kn p < 0 then (1001, kn) else if 0 < knAt kn p then (knAt kn p, kn) else
      ((weighK (weighM ns d) (fieldsAt ns p) 1 (kn.set p (-1))).1, (weighK (weighM ns d) (fieldsAt ns p) 1 (kn.set p (-1))).2.set p (weighK (weighM ns d) (fieldsAt ns p) 1 (kn.set p (-1))).1)
noncomputable def rightL (ns : List NT) : List NT → Nat → List Int → Bool
  | [], _, _ => true
  | n :: r, p, kn => nodeM ns n && (decide ((weighM ns (ns.length + 1) p kn).1 ≤ 1000) && rightL ns r (p + 1) (weighM ns (ns.length + 1) p kn).2)
def namesM (ns : List NT) : List (List UInt8) := (ns.filter fun n => namedK n.kind).map (·.name)
noncomputable def rightM (s : ST) : Bool := orderedM s && (rightL s.nodes s.nodes 0 (List.replicate s.nodes.length 0) && diffM fullM (namesM s.nodes))
theorem right_ordered {s : ST} (h : rightM s = true) : orderedM s = true := by
  unfold rightM at h
  simp only [Bool.and_eq_true] at h
  exact h.1

theorem told_plain {P : Program} {f : FuncId} {xs : List Value} {r : Value} (hE : Enters P f) (hr : r.oneCell' = true) (h : ∀ W : World, Calls P f xs.toArray W fun e w' => e = .returned r ∧ w' = W) : Told P f (xs.map fun x => .c (.v x)) (.c (.v r)) := by
  refine ⟨hE, fun W ro vs hro hgk hl => ?_⟩
  have hvs : vs = xs := by
    apply List.ext_getElem?
    intro k
    by_cases hk : k < xs.length
    · have hkv : k < vs.length := by rw [hl.1]; simpa using hk
      have := hl.2 k _ _ (by rw [List.getElem?_map, List.getElem?_eq_getElem hk]; rfl) (List.getElem?_eq_getElem hkv)
      rw [List.getElem?_eq_getElem hkv, rep_prim this, List.getElem?_eq_getElem hk]
    · rw [List.getElem?_eq_none (by rw [hl.1]; simpa using hk), List.getElem?_eq_none (by omega)]
  subst hvs
  refine (h W).mono ?_
  rintro e W' ⟨rfl, rfl⟩
  exact ⟨r, ro, rfl, Below.refl _ _, fun b h => h, fun b h => ⟨.inl h, hro b h⟩, .c (.v hr), .c _⟩
section
attribute [local go_sem] opx opE ev okx gcond bnd okO AV.get AV.okb cAV upd_at putd_some putd_none wrs_nil wrs_cons look_nil look_cons st argT_at bpick_and bpick_or bpick_true bpick_false binV binI binS binVOk binOk isShift binSOk unV unVOk loadV loadP cellsA zeroA Blkd.len setE grown moreA moreR moreOk eqRes pv fillA fillE putSeg AV.cellish AV.pureL AV.pureB lentL_is ex_some AV.ren AV.renL renL_c Blkd.ren rho wrM renN lentOk rhoE keepM endOk tyA_2 tyA_3 tyA_4 tyA_5 tyA_6 tyA_7 tyA_8 tyA_9 tyA_10 tyA_11 tyA_12 tyA_13 tyA_14 tyA_15 tyA_16 tyA_17 tyA_18 tyA_19 tyA_21 tyA_22 tyA_23 tyA_24 tyA_29 tyA_30 tyA_31 tyA_32 tyA_33 tyA_34 tyA_35 tyA_36 tyA_37 tyA_38 tyA_39 tyA_40 tyA_41 tyA_42 tyA_43 tyA_48 tyA_89 tyA_93 tyA_107 tyA_108 tyA_109 tyA_113 tyA_114 tyA_115 tyA_116 tyA_117 tyA_119 tyA_120 tyA_121 tyA_122 tyA_131 tyA_134 tyA_135 tyA_136 tyA_137 tyA_138 tyA_154 tyA_156 tyA_157 tyA_158 tyA_159 tyA_170 tyA_180 tyA_181 tyA_182 tyA_196 tyA_202 tyA_208 tyA_209 tyA_210 tyA_211 tyA_212 tyA_213 tyA_229 tyA_230 tyA_231 tyA_241 tyA_264 tyA_268 tyA_293 tyA_294 tyA_295 tyA_311 tyA_313 tyA_321 tyA_326 tyA_334 tyA_338 tyA_340 tyA_343 tyA_344 tyA_345 tyA_346 tyA_347 tyA_348 tyA_349 tyA_351 tyA_352 Option.map_some Option.map_none Option.getD_some Option.getD_none Option.bind_some Option.bind_none List.getElem?_cons_zero List.getElem?_cons_succ List.getElem?_nil List.getElem?_toArray List.length_cons List.length_nil List.length_map List.forall_mem_map List.map_cons List.map_nil List.drop_zero List.drop_succ_cons List.drop_nil List.take_zero List.take_succ_cons List.take_nil List.mem_cons List.not_mem_nil or_false forall_eq_or_imp forall_eq List.set_cons_zero List.set_cons_succ List.cons_append List.nil_append List.append_nil List.foldl_cons List.foldl_nil List.replicate_succ List.replicate_zero List.all_cons List.all_nil if_true if_false Bool.false_eq_true ne_eq not_false_eq_true not_true_eq_false true_and and_true and_self true_implies imp_self implies_true forall_const beq_self_eq_true Bool.and_true Bool.true_and Bool.and_false Bool.false_and Bool.or_true Bool.true_or Bool.or_false Bool.false_or Bool.not_true Bool.not_false Bool.not_eq_eq_eq_not intKindOf Value.oneCell' Int.toNat_natCast beq_true beq_false Bool.not_eq_true false_implies false_or true_or or_true Nat.zero_add Nat.add_zero decide_true decide_false Int.cast_ofNat_Int Int.toNat_zero Int.toNat_one eq_self

set_option maxRecDepth 100000 in
set_option maxHeartbeats 800000 in
theorem letter_told (c : UInt8) : Told Tryz.prog 248 [.c (.v (.int .u8 (c.toNat : Int)))] (.c (.v (.bool (isLet c)))) := by
  obtain ⟨V, hV⟩ : ∃ V, V = isLet c := ⟨_, rfl⟩
  rw [← hV]
  obtain ⟨y, hy⟩ : ∃ y : Int, y = (c.toNat : Int) := ⟨_, rfl⟩
  rw [← hy]
  have hv : V = ((decide (y ≥ 97) && decide (y ≤ 122)) || ((decide (y ≥ 65) && decide (y ≤ 90)) || (y == 95))) := by
    have e : (y == 95) = decide (c.toNat = 95) := by
      rw [hy]
      by_cases h : c.toNat = 95
      · simp [h]
      · have : ¬ ((c.toNat : Int) = 95) := by omega
        simp [h, this]
    rw [hV, isLet, e, hy]
    congr 1
    · congr 1 <;> simp <;> omega
    · congr 1
      congr 1 <;> simp <;> omega
  clear hV hy
  replace hv := Lib.hid hv
  refine VC.told ent_248 Tryz.func248 rfl Tryz.ntmps248 (by simp) (by first | rfl | simp [AV.pureB, AV.pureL, pureL_c, pures]) (by first | rfl | simp [AV.pureB, AV.pureL, pureL_c, pures]) fun hb => ?_
  clear hb
  (repeat (first | refine pass ?_ | refine VC.region (by rfl) (by rfl) ?_ | (refine AO.step fun K hK => ?_; simp only [List.append_assoc, go_sem, Int.reduceBEq, Int.reduceLE, Int.reduceLT, Int.reduceNeg, Nat.reduceAdd, Nat.reduceEqDiff, Nat.reduceLT, Nat.reduceLeDiff, Nat.reduceMul, Nat.reduceSub, reduceCtorEq, ↓reduceIte]; (first | refine gsel_skip ?_ | refine gsel_go ?_ | skip); (first | refine hK _ _ _ ?_ | refine ⟨by first | omega | exact ⟨_, rfl, rfl⟩ | exact fun _ => ⟨_, rfl, rfl⟩ | (intro h; simp only [List.append_assoc, h, true_and]; omega) | (clear hK; intro h; simp_all <;> omega), hK _ _ _ ?_⟩); clear hK K) | refine VC.draw mixP (by rfl) (by rfl) ?_ | refine ⟨okd_of (by kernel_rfl), ?_⟩ | refine BQ.other (by decide) ?_ | refine VC.seq ?_ | refine AO.nil ?_ | refine VC.block ?_))
  refine ⟨by first | exact .inr rfl | exact .inl rfl, ?_⟩; rw [Tryz.results248]; simp only [resOk, resV, go_sem, Int.reduceBEq, Int.reduceLE, Int.reduceLT, Int.reduceNeg, Nat.reduceAdd, Nat.reduceEqDiff, Nat.reduceLT, Nat.reduceLeDiff, Nat.reduceMul, Nat.reduceSub, reduceCtorEq, ↓reduceIte]
  have hv2 : V = ((decide (y ≥ 97) && decide (y ≤ 122)) || (decide (y ≥ 65) && decide (y ≤ 90)) || (y == 95)) := by rw [hv.out, Bool.or_assoc]
  rw [hv2]
  exact .c _
def okAt (i : Nat) (c : UInt8) : Bool := isLet c || (decide (0 < i) && isDig c)
theorem simp1_at {s : List UInt8} : simp1 s = true ↔ s ≠ [] ∧ ∀ (i : Nat) (c : UInt8), s[i]? = some c → okAt i c = true := by
  cases s with
  | nil => simp [simp1]
  | cons x xs =>
    simp only [simp1, Bool.and_eq_true, List.all_eq_true, ne_eq, reduceCtorEq, not_false_eq_true, true_and]
    constructor
    · rintro ⟨h1, h2⟩ i c hc
      match i with
      | 0 =>
        simp at hc
        subst hc
        simp [okAt, h1]
      | i + 1 =>
        rw [List.getElem?_cons_succ] at hc
        have := h2 c (List.mem_of_getElem? hc)
        simpa [okAt] using this
    · intro h
      refine ⟨by simpa [okAt] using h 0 x rfl, fun c hc => ?_⟩
      obtain ⟨i, hi⟩ := List.getElem?_of_mem hc
      simpa [okAt] using h (i + 1) c (by rw [List.getElem?_cons_succ]; exact hi)
set_option maxRecDepth 100000 in
set_option maxHeartbeats 800000 in
theorem simple1_told (s : List UInt8) (hs : s.length ≤ 1000000000) : Told Tryz.prog 187 [.c (.v (.string (str s)))] (.c (.v (.bool (simp1 s)))) := by
  obtain ⟨V, hV⟩ : ∃ V, V = simp1 s := ⟨_, rfl⟩
  rw [← hV]
  refine VC.told ent_187 Tryz.func187 rfl Tryz.ntmps187 (by simp) (by first | rfl | simp [AV.pureB, AV.pureL, pureL_c, pures]) (by first | rfl | simp [AV.pureB, AV.pureL, pureL_c, pures]) fun hb => ?_
  clear hb
  refine walkGF (@str_size) ?_
  refine VC.loop (ι := {i : Nat // i ≤ s.length ∧ ∀ (j : Nat) (c : UInt8), j < i → s[j]? = some c → okAt j c = true})
    (fun q => [(0, .c (.v (.string (str s)))), (5, .c (.v (.int .i64 (s.length : Int)))), (6, .c (.v (.int .i64 (q.1 : Int))))]) (fun _ => []) 800 (fun q => s.length - q.1) ⟨0, Nat.zero_le _, fun j c h => by omega⟩ ?_ ?_
  · simp only [Weak, eq_self, used_is, sc_any, sc_c, sc_pp, sc_ref, sc_row, sc_agg, sc_fn, ScL, some_imp, List.forall_mem_map, go_sem, Int.reduceBEq, Int.reduceLE, Int.reduceLT, Int.reduceNeg, Nat.reduceAdd, Nat.reduceEqDiff, Nat.reduceLT, Nat.reduceLeDiff, Nat.reduceMul, Nat.reduceSub, reduceCtorEq, ↓reduceIte]
    try trivial
  rintro ⟨i, hi, ht⟩
  simp only []
  refine walkG ?_
  refine VC.cond (by rfl) (by trivial) (fun hc => ?_) (fun hc => ?_)
  · have hlt : i < s.length := by simp at hc; omega
    obtain ⟨c, hx⟩ : ∃ c, s[i]? = some c := ⟨s[i], List.getElem?_eq_getElem hlt⟩
    have hw : IntKind.i64.wrap ((i : Int) + 1) = (i : Int) + 1 := wrap64_id (by omega) (by omega)
    have hL := letter_told c
    refine walkGF (And.intro @str_size (And.intro @str_dl hx)) ?_
    refine walkC (hL) ?_
    refine walkGF (And.intro @str_size (And.intro @str_dl hx)) ?_
    refine VC.cond (by rfl) (by trivial) (fun hc2 => ?_) (fun hc2 => ?_)
    · have hf : V = false := by
        cases h : V with
        | false => rfl
        | true =>
          rw [hV, simp1_at] at h
          have := h.2 i c hx
          cases hl : isLet c with
          | true => simp [hl] at hc2
          | false =>
            simp [okAt, isDig, hl] at this hc2
            omega
      subst hf
      refine walkG ?_
      refine ⟨by first | exact .inr rfl | exact .inl rfl, ?_⟩; rw [Tryz.results187]; simp only [resOk, resV, go_sem, Int.reduceBEq, Int.reduceLE, Int.reduceLT, Int.reduceNeg, Nat.reduceAdd, Nat.reduceEqDiff, Nat.reduceLT, Nat.reduceLeDiff, Nat.reduceMul, Nat.reduceSub, reduceCtorEq, ↓reduceIte]
      exact .c _
    · refine walkGF (hw) ?_
      refine .next ⟨i + 1, by omega, ?_⟩ ?_ (by simp only []; omega)
      · intro j d hj hd
        by_cases hji : j < i
        · exact ht j d hji hd
        · obtain rfl : j = i := by omega
          rw [hx] at hd
          obtain rfl := Option.some.inj hd
          cases hl : isLet c with
          | true => simp [okAt, hl]
          | false =>
            simp [okAt, isDig, hl] at hc2 ⊢
            omega
      simp only [Weak, eq_self, used_is, sc_any, sc_c, sc_pp, sc_ref, sc_row, sc_agg, sc_fn, ScL, some_imp, List.forall_mem_map, go_sem, Int.reduceBEq, Int.reduceLE, Int.reduceLT, Int.reduceNeg, Nat.reduceAdd, Nat.reduceEqDiff, Nat.reduceLT, Nat.reduceLeDiff, Nat.reduceMul, Nat.reduceSub, reduceCtorEq, ↓reduceIte]
      try exact cI (by omega)
  · have hE : (⟨#[]⟩ : ByteArray).toList = [] := str_toList []
    have hie : i = s.length := by simp at hc; omega
    have hf : V = !(s == []) := by
      rw [hV, Bool.eq_iff_iff, simp1_at]
      constructor
      · rintro ⟨h1, _⟩
        simpa using h1
      · intro h1
        refine ⟨by simpa using h1, fun j c hj => ht j c ?_ hj⟩
        have := (List.getElem?_eq_some_iff.1 hj).1
        omega
    refine walkGF (And.intro @str_toList hE) ?_
    refine ⟨by first | exact .inr rfl | exact .inl rfl, ?_⟩; rw [Tryz.results187]; simp only [resOk, resV, go_sem, Int.reduceBEq, Int.reduceLE, Int.reduceLT, Int.reduceNeg, Nat.reduceAdd, Nat.reduceEqDiff, Nat.reduceLT, Nat.reduceLeDiff, Nat.reduceMul, Nat.reduceSub, reduceCtorEq, ↓reduceIte]
    rw [hf]
    exact .c _
set_option maxRecDepth 100000 in
set_option maxHeartbeats 800000 in
theorem simple_told (s : List UInt8) (hs : s.length ≤ 1000000000) : Told Tryz.prog 184 [.c (.v (.string (str s)))] (.c (.v (.bool (simpleM s)))) := by
  obtain ⟨V, hV⟩ : ∃ V, V = simpleM s := ⟨_, rfl⟩
  rw [← hV]
  have hv : V = (decide ((s.length : Int) ≤ 100) && simp1 s) := by
    rw [hV, simpleM]
    congr 1
    simp
    omega
  have hT := simple1_told s hs
  clear hV
  refine VC.told ent_184 Tryz.func184 rfl Tryz.ntmps184 (by simp) (by first | rfl | simp [AV.pureB, AV.pureL, pureL_c, pures]) (by first | rfl | simp [AV.pureB, AV.pureL, pureL_c, pures]) fun hb => ?_
  clear hb
  refine walkGF (@str_size) ?_
  refine walkD (hT) ?_
  refine walkG ?_
  refine ⟨by first | exact .inr rfl | exact .inl rfl, ?_⟩; rw [Tryz.results184]; simp only [resOk, resV, go_sem, Int.reduceBEq, Int.reduceLE, Int.reduceLT, Int.reduceNeg, Nat.reduceAdd, Nat.reduceEqDiff, Nat.reduceLT, Nat.reduceLeDiff, Nat.reduceMul, Nat.reduceSub, reduceCtorEq, ↓reduceIte]
  rw [hv]
  exact .c _

theorem index_take (c : UInt8) : ∀ s : List UInt8, (Lib.indexByte s c = -1 ∧ s.takeWhile (· != c) = s ∧ s.dropWhile (· != c) = []) ∨ (∃ i : Nat, i < s.length ∧ Lib.indexByte s c = (i : Int) ∧ s.takeWhile (· != c) = s.take i ∧ s.dropWhile (· != c) = c :: s.drop (i + 1))
  | [] => .inl ⟨rfl, rfl, rfl⟩
  | x :: xs => by
    by_cases h : x = c
    · subst h
      exact .inr ⟨0, by simp, by simp [Lib.indexByte], by simp, by simp⟩
    · have hb : (x == c) = false := by simp [h]
      have hb' : (x != c) = true := by simp [h]
      rcases index_take c xs with ⟨h1, h2, h3⟩ | ⟨i, h0, h1, h2, h3⟩
      · exact .inl ⟨by simp [Lib.indexByte, hb, h1], by rw [List.takeWhile_cons, if_pos hb', h2], by rw [List.dropWhile_cons, if_pos hb', h3]⟩
      · refine .inr ⟨i + 1, by simp; omega, ?_, by rw [List.takeWhile_cons, if_pos hb', h2]; rfl, by rw [List.dropWhile_cons, if_pos hb', h3]; rfl⟩
        rw [Lib.indexByte, hb, h1]
        have : ((i : Int) == -1) = false := by simp
        simp [this]
theorem str_extract (l : List UInt8) (a b : Nat) : (str l).extract a b = str ((l.take b).drop a) := by
  apply ByteArray.ext
  simp [str, ByteArray.data_extract, List.drop_take]
theorem index_told (s : List UInt8) : Told Tryz.prog 278 [.c (.v (.string (str s))), .c (.v (.string ⟨#[46]⟩))] (.c (.v (.int .i64 (Lib.indexByte s 46)))) :=
  told_plain (xs := [.string (str s), .string ⟨#[46]⟩]) ent_278 rfl fun W => Tryz.stringslite_Index_one (str s) 46 W
set_option maxRecDepth 100000 in
set_option maxHeartbeats 800000 in
theorem cut0_told (s : List UInt8) (hs : s.length ≤ 1000000000) : Told Tryz.prog 247 [.c (.v (.string (str s))), .c (.v (.string ⟨#[46]⟩))] (.tup [.c (.v (.string (str (s.takeWhile (· != 46))))), .c (.v (.string (str (s.dropWhile (· != 46)).tail))), .c (.v (.bool (!(s.dropWhile (· != 46)).isEmpty)))]) := by
  have hI := index_told s
  rcases index_take 46 s with ⟨h1, h2, h3⟩ | ⟨i, h0, h1, h2, h3⟩
  · rw [h2, h3]
    rw [h1] at hI
    refine VC.told ent_247 Tryz.func247 rfl Tryz.ntmps247 (by simp) (by first | rfl | simp [AV.pureB, AV.pureL, pureL_c, pures]) (by first | rfl | simp [AV.pureB, AV.pureL, pureL_c, pures]) fun hb => ?_
    clear hb
    refine walkG ?_
    refine walkC (hI) ?_
    refine walkB ?_
    refine ⟨by first | exact .inr rfl | exact .inl rfl, ?_⟩; rw [Tryz.results247]; simp only [resOk, resV, go_sem, Int.reduceBEq, Int.reduceLE, Int.reduceLT, Int.reduceNeg, Nat.reduceAdd, Nat.reduceEqDiff, Nat.reduceLT, Nat.reduceLeDiff, Nat.reduceMul, Nat.reduceSub, reduceCtorEq, ↓reduceIte]
    exact ⟨.c _, .c _, .c _⟩
  · rw [h2, h3]
    rw [h1] at hI
    have hd : decide ((i : Int) ≥ 0) = true := by simp
    have hz : (⟨#[46]⟩ : ByteArray).size = 1 := rfl
    have hw : IntKind.i64.wrap ((i : Int) + 1) = (i : Int) + 1 := wrap64_id (by omega) (by omega)
    have hx1 : (str s).extract 0 i = str (s.take i) := by
      rw [str_extract, List.drop_zero]
    have hx2 : (str s).extract (i + 1) s.length = str (s.drop (i + 1)) := by
      rw [str_extract, List.take_length]
    have ht : ((i : Int) + 1).toNat = i + 1 := by omega
    refine VC.told ent_247 Tryz.func247 rfl Tryz.ntmps247 (by simp) (by first | rfl | simp [AV.pureB, AV.pureL, pureL_c, pures]) (by first | rfl | simp [AV.pureB, AV.pureL, pureL_c, pures]) fun hb => ?_
    clear hb
    refine walkG ?_
    refine walkC (hI) ?_
    refine walkBF (And.intro hd (And.intro hz (And.intro hw @str_size))) ?_
    refine ⟨by first | exact .inr rfl | exact .inl rfl, ?_⟩; rw [Tryz.results247]; simp only [resOk, resV, go_sem, Int.reduceBEq, Int.reduceLE, Int.reduceLT, Int.reduceNeg, Nat.reduceAdd, Nat.reduceEqDiff, Nat.reduceLT, Nat.reduceLeDiff, Nat.reduceMul, Nat.reduceSub, reduceCtorEq, ↓reduceIte]
    rw [ht, hx1, hx2]
    exact ⟨.c _, .c _, .c _⟩
theorem cut_told (s : List UInt8) (hs : s.length ≤ 1000000000) : Told Tryz.prog 186 [.c (.v (.string (str s))), .c (.v (.string ⟨#[46]⟩))] (.tup [.c (.v (.string (str (s.takeWhile (· != 46))))), .c (.v (.string (str (s.dropWhile (· != 46)).tail))), .c (.v (.bool (!(s.dropWhile (· != 46)).isEmpty)))]) := by
  have hI := cut0_told s hs
  refine VC.told ent_186 Tryz.func186 rfl Tryz.ntmps186 (by simp) (by first | rfl | simp [AV.pureB, AV.pureL, pureL_c, pures]) (by first | rfl | simp [AV.pureB, AV.pureL, pureL_c, pures]) fun hb => ?_
  clear hb
  refine walkG ?_
  refine walkC (hI) ?_
  refine walkG ?_
  refine ⟨by first | exact .inr rfl | exact .inl rfl, ?_⟩; rw [Tryz.results186]; simp only [resOk, resV, go_sem, Int.reduceBEq, Int.reduceLE, Int.reduceLT, Int.reduceNeg, Nat.reduceAdd, Nat.reduceEqDiff, Nat.reduceLT, Nat.reduceLeDiff, Nat.reduceMul, Nat.reduceSub, reduceCtorEq, ↓reduceIte]
  exact ⟨.c _, .c _, .c _⟩
set_option maxRecDepth 100000 in
set_option maxHeartbeats 800000 in
theorem full_told (s : List UInt8) (hs : s.length ≤ 1000000000) : Told Tryz.prog 100 [.c (.v (.string (str s)))] (.c (.v (.bool (fullM s)))) := by
  obtain ⟨V, hV⟩ : ∃ V, V = fullM s := ⟨_, rfl⟩
  rw [← hV]
  unfold fullM at hV
  refine VC.told ent_100 Tryz.func100 rfl Tryz.ntmps100 (by simp) (by first | rfl | simp [AV.pureB, AV.pureL, pureL_c, pures]) (by first | rfl | simp [AV.pureB, AV.pureL, pureL_c, pures]) fun hb => ?_
  clear hb
  refine walkGF (@str_size) ?_
  refine VC.cond (by rfl) (by trivial) (fun hc => ?_) (fun hc => ?_)
  · have hf : V = false := by
      have : ¬ (s.length ≤ 100) := by simp at hc; omega
      rw [hV]
      simp [this]
    subst hf
    refine walkG ?_
    refine ⟨by first | exact .inr rfl | exact .inl rfl, ?_⟩; rw [Tryz.results100]; simp only [resOk, resV, go_sem, Int.reduceBEq, Int.reduceLE, Int.reduceLT, Int.reduceNeg, Nat.reduceAdd, Nat.reduceEqDiff, Nat.reduceLT, Nat.reduceLeDiff, Nat.reduceMul, Nat.reduceSub, reduceCtorEq, ↓reduceIte]
    exact .c _
  have hl : s.length ≤ 100 := by simp at hc; omega
  have hv : fullF (s.length + 1) s = V := by rw [hV]; simp [hl]
  clear hV hc
  refine walkG ?_
  refine VC.loop (ι := {l : List UInt8 // l.length ≤ 100 ∧ fullF (l.length + 1) l = V}) (fun q => [(0, .c (.v (.string (str q.1))))]) (fun _ => []) 800 (fun q => q.1.length) ⟨s, hl, hv⟩ ?_ ?_
  · simp only [Weak, eq_self, used_is, sc_any, sc_c, sc_pp, sc_ref, sc_row, sc_agg, sc_fn, ScL, some_imp, List.forall_mem_map, go_sem, Int.reduceBEq, Int.reduceLE, Int.reduceLT, Int.reduceNeg, Nat.reduceAdd, Nat.reduceEqDiff, Nat.reduceLT, Nat.reduceLeDiff, Nat.reduceMul, Nat.reduceSub, reduceCtorEq, ↓reduceIte]
  rintro ⟨l, hl, hv⟩
  simp only []
  rw [fullF] at hv
  have hC := cut_told l (by omega)
  obtain ⟨p, hp⟩ : ∃ p, p = l.takeWhile (· != 46) := ⟨_, rfl⟩
  obtain ⟨D, hD⟩ : ∃ D, D = l.dropWhile (· != 46) := ⟨_, rfl⟩
  have hpl : p.length ≤ l.length := by rw [hp]; exact (List.takeWhile_sublist _).length_le
  have hDl : D.length ≤ l.length := by rw [hD]; exact (List.dropWhile_sublist _).length_le
  rw [← hp, ← hD] at hC hv
  clear hp hD
  have hS := simple1_told p (by omega)
  refine walkG ?_
  refine walkC (hC) ?_
  refine walkG ?_
  refine walkC (hS) ?_
  refine walkG ?_
  refine VC.cond (by rfl) (by trivial) (fun hc => ?_) (fun hc => ?_)
  · have hf : V = false := by
      rw [← hv]
      have : simp1 p = false := by simpa using hc
      simp [this]
    subst hf
    refine walkG ?_
    refine ⟨by first | exact .inr rfl | exact .inl rfl, ?_⟩; rw [Tryz.results100]; simp only [resOk, resV, go_sem, Int.reduceBEq, Int.reduceLE, Int.reduceLT, Int.reduceNeg, Nat.reduceAdd, Nat.reduceEqDiff, Nat.reduceLT, Nat.reduceLeDiff, Nat.reduceMul, Nat.reduceSub, reduceCtorEq, ↓reduceIte]
    exact .c _
  have hp1 : simp1 p = true := by simpa using hc
  rw [hp1, Bool.true_and] at hv
  refine walkG ?_
  refine VC.cond (by rfl) (by trivial) (fun hc2 => ?_) (fun hc2 => ?_)
  · cases D with
    | cons x r => simp at hc2
    | nil =>
      have hf : V = true := hv.symm
      subst hf
      refine walkG ?_
      refine ⟨by first | exact .inr rfl | exact .inl rfl, ?_⟩; rw [Tryz.results100]; simp only [resOk, resV, go_sem, Int.reduceBEq, Int.reduceLE, Int.reduceLT, Int.reduceNeg, Nat.reduceAdd, Nat.reduceEqDiff, Nat.reduceLT, Nat.reduceLeDiff, Nat.reduceMul, Nat.reduceSub, reduceCtorEq, ↓reduceIte]
      exact .c _
  · cases D with
    | nil => simp at hc2
    | cons x r =>
      simp only [] at hv
      simp only [List.length_cons] at hDl
      (repeat (first | refine pass ?_ | refine VC.region (by rfl) (by rfl) ?_ | (refine AO.step fun K hK => ?_; simp only [List.tail_cons, go_sem, Int.reduceBEq, Int.reduceLE, Int.reduceLT, Int.reduceNeg, Nat.reduceAdd, Nat.reduceEqDiff, Nat.reduceLT, Nat.reduceLeDiff, Nat.reduceMul, Nat.reduceSub, reduceCtorEq, ↓reduceIte]; (first | refine gsel_skip ?_ | refine gsel_go ?_ | skip); (first | refine hK _ _ _ ?_ | refine ⟨by first | omega | exact ⟨_, rfl, rfl⟩ | exact fun _ => ⟨_, rfl, rfl⟩ | (intro h; simp only [List.tail_cons, h, true_and]; omega) | (clear hK; intro h; simp_all <;> omega), hK _ _ _ ?_⟩); clear hK K) | refine VC.draw mixP (by rfl) (by rfl) ?_ | refine ⟨okd_of (by kernel_rfl), ?_⟩ | refine BQ.other (by decide) ?_ | refine VC.seq ?_ | refine AO.nil ?_ | refine VC.block ?_))
      refine .next ⟨r, by omega, by rw [← hv]; exact fullF_fuel _ _ _ (by omega) (by omega)⟩ ?_ (by simp only []; omega)
      simp only [Weak, eq_self, used_is, sc_any, sc_c, sc_pp, sc_ref, sc_row, sc_agg, sc_fn, ScL, some_imp, List.forall_mem_map, go_sem, Int.reduceBEq, Int.reduceLE, Int.reduceLT, Int.reduceNeg, Nat.reduceAdd, Nat.reduceEqDiff, Nat.reduceLT, Nat.reduceLeDiff, Nat.reduceMul, Nat.reduceSub, reduceCtorEq, ↓reduceIte]
set_option maxRecDepth 100000 in
set_option maxHeartbeats 800000 in
theorem kind_told (s : List UInt8) : Told Tryz.prog 180 [.c (.v (.string (str s)))] (.c (.v (.int .i64 (kindM s : Int)))) := by
  obtain ⟨V, hV⟩ : ∃ V, V = kindM s := ⟨_, rfl⟩
  rw [← hV]
  obtain ⟨L, hL⟩ : ∃ L, L = kwords.map fun l => PV.v (.string (str l)) := ⟨_, rfl⟩
  have hg : glob Tryz.prog 0 = some L := by rw [hL]; kernel_rfl
  have hLl : L.length = 15 := by rw [hL]; rfl
  have hLt : L.take 15 = L := by rw [← hLl, List.take_length]
  refine VC.told ent_180 Tryz.func180 rfl Tryz.ntmps180 (by simp) (by first | rfl | simp [AV.pureB, AV.pureL, pureL_c, pures]) (by first | rfl | simp [AV.pureB, AV.pureL, pureL_c, pures]) fun hb => ?_
  clear hb
  refine walkGF (And.intro hg (And.intro hLl hLt)) ?_
  have hE : (⟨#[]⟩ : ByteArray).toList = [] := str_toList []
  have hkl : kwords.length = 15 := rfl
  refine VC.loop (ι := {i : Nat // i ≤ 15 ∧ ∀ (j : Nat) (w : List UInt8), j < i → kwords[j]? = some w → s ≠ [] → w ≠ s}) (fun q => [(0, .c (.v (.string (str s)))), (5, .agg (L.map .c)), (6, .c (.v (.int .i64 (q.1 : Int))))]) (fun _ => []) 800 (fun q => 15 - q.1) ⟨0, by omega, fun j w h => by omega⟩ ?_ ?_
  · simp only [Weak, eq_self, used_is, sc_any, sc_c, sc_pp, sc_ref, sc_row, sc_agg, sc_fn, ScL, some_imp, List.forall_mem_map, go_sem, Int.reduceBEq, Int.reduceLE, Int.reduceLT, Int.reduceNeg, Nat.reduceAdd, Nat.reduceEqDiff, Nat.reduceLT, Nat.reduceLeDiff, Nat.reduceMul, Nat.reduceSub, reduceCtorEq, ↓reduceIte]
  rintro ⟨i, hi, ht⟩
  simp only []
  refine walkG ?_
  refine VC.cond (by rfl) (by trivial) (fun hc => ?_) (fun hc => ?_)
  · have hlt : i < 15 := by simp at hc; omega
    obtain ⟨w, hx⟩ : ∃ w, kwords[i]? = some w := ⟨kwords[i]'(by omega), List.getElem?_eq_getElem (by omega)⟩
    have hLx : (L.map AV.c)[i]? = some (.c (.v (.string (str w)))) := by rw [hL, List.getElem?_map, List.getElem?_map, hx]; rfl
    have hw : IntKind.i64.wrap ((i : Int) + 1) = (i : Int) + 1 := wrap64_id (by omega) (by omega)
    refine walkGF (And.intro hLx (And.intro @str_toList hE)) ?_
    refine VC.cond (by rfl) (by trivial) (fun hc2 => ?_) (fun hc2 => ?_)
    · have hh : w = s ∧ s ≠ [] := by simpa using hc2
      have hf : V = i := by
        rw [hV, kindM, if_neg hh.2]
        have : kwords.findIdx? (· == s) = some i := by
          rw [List.findIdx?_eq_some_iff_getElem]
          refine ⟨by omega, ?_, fun j hj => ?_⟩
          · have := (List.getElem?_eq_some_iff.1 hx).2
            simp [this, hh.1]
          · have := ht j _ hj (List.getElem?_eq_getElem (by omega)) hh.2
            simpa using this
        rw [this]
      subst hf
      refine walkG ?_
      refine ⟨by first | exact .inr rfl | exact .inl rfl, ?_⟩; rw [Tryz.results180]; simp only [resOk, resV, go_sem, Int.reduceBEq, Int.reduceLE, Int.reduceLT, Int.reduceNeg, Nat.reduceAdd, Nat.reduceEqDiff, Nat.reduceLT, Nat.reduceLeDiff, Nat.reduceMul, Nat.reduceSub, reduceCtorEq, ↓reduceIte]
      exact .c _
    · have hh : ¬ (w = s ∧ s ≠ []) := by simpa using hc2
      refine walkGF (hw) ?_
      refine .next ⟨i + 1, by omega, ?_⟩ ?_ (by simp only []; omega)
      · intro j u hj hu hs
        by_cases hji : j < i
        · exact ht j u hji hu hs
        · obtain rfl : j = i := by omega
          rw [hx] at hu
          obtain rfl := Option.some.inj hu
          exact fun e => hh ⟨e, hs⟩
      simp only [Weak, eq_self, used_is, sc_any, sc_c, sc_pp, sc_ref, sc_row, sc_agg, sc_fn, ScL, some_imp, List.forall_mem_map, go_sem, Int.reduceBEq, Int.reduceLE, Int.reduceLT, Int.reduceNeg, Nat.reduceAdd, Nat.reduceEqDiff, Nat.reduceLT, Nat.reduceLeDiff, Nat.reduceMul, Nat.reduceSub, reduceCtorEq, ↓reduceIte]
      exact cI (by omega)
  · have hie : i = 15 := by simp at hc; omega
    have hf : V = 0 := by
      rw [hV, kindM]
      split
      · rfl
      · rename_i hs
        have : kwords.findIdx? (· == s) = none := by
          rw [List.findIdx?_eq_none_iff]
          intro w hw
          obtain ⟨j, hj⟩ := List.getElem?_of_mem hw
          have := ht j w (by have := (List.getElem?_eq_some_iff.1 hj).1; omega) hj hs
          simpa using this
        rw [this]
    subst hf
    refine walkG ?_
    refine ⟨by first | exact .inr rfl | exact .inl rfl, ?_⟩; rw [Tryz.results180]; simp only [resOk, resV, go_sem, Int.reduceBEq, Int.reduceLE, Int.reduceLT, Int.reduceNeg, Nat.reduceAdd, Nat.reduceEqDiff, Nat.reduceLT, Nat.reduceLeDiff, Nat.reduceMul, Nat.reduceSub, reduceCtorEq, ↓reduceIte]
    exact .c _
end

def hexD (n : Nat) : UInt8 := if n < 10 then (48 + n).toUInt8 else (87 + n).toUInt8
def qByte (c : UInt8) : List UInt8 :=
  if c.toNat = 34 then [92, 34] else if c.toNat = 92 then [92, 92] else if c.toNat = 8 then [92, 98] else if c.toNat = 12 then [92, 102] else if c.toNat = 10 then [92, 110] else if c.toNat = 13 then [92, 114] else if c.toNat = 9 then [92, 116]
  else if c.toNat < 32 then [92, 117, 48, 48, hexD (c.toNat / 16), hexD (c.toNat % 16)] else [c]
def mQuote (s : List UInt8) : List UInt8 := 34 :: s.flatMap qByte ++ [34]
theorem qByte_len (c : UInt8) : (qByte c).length ≤ 6 := by
  unfold qByte
  repeat' split
  all_goals simp
theorem take_next {s : List UInt8} {k : Nat} {x : UInt8} (h : s[k]? = some x) : (s.take (k + 1)).flatMap qByte = (s.take k).flatMap qByte ++ qByte x := by
  have hk : k < s.length := by
    rcases Nat.lt_or_ge k s.length with h' | h'
    · exact h'
    · rw [List.getElem?_eq_none h'] at h; simp at h
  rw [List.take_succ_eq_append_getElem hk, List.flatMap_append]
  rw [List.getElem?_eq_getElem hk] at h
  simp at h
  rw [h]
  simp
theorem quote_len (s : List UInt8) : (mQuote s).length ≤ 6 * s.length + 2 := by
  have : ∀ l : List UInt8, (l.flatMap qByte).length ≤ 6 * l.length := by
    intro l
    induction l with
    | nil => simp
    | cons x l ih =>
      have := qByte_len x
      simp only [List.flatMap_cons, List.length_append, List.length_cons]
      omega
  have := this s
  simp only [mQuote, List.length_append, List.length_cons, List.length_nil]
  omega
def qIdx (y : Nat) : Int := Lib.indexByte [34, 92, 47, 8, 12, 10, 13, 9] y.toUInt8
def qEsc (k : Int) : UInt8 := ([34, 92, 47, 98, 102, 110, 114, 116][k.toNat]?).getD 0
def qHex (k : Nat) : UInt8 := ([48, 49, 50, 51, 52, 53, 54, 55, 56, 57, 97, 98, 99, 100, 101, 102][k]?).getD 0
theorem q_cases : ∀ y : Nat, y < 256 → (if 0 ≤ qIdx y ∧ y ≠ 47 then qIdx y < 8 ∧ qByte y.toUInt8 = [92, qEsc (qIdx y)] else if y < 32 then qByte y.toUInt8 = [92, 117, 48, 48, qHex (y / 16), qHex (y % 16)] else qByte y.toUInt8 = [y.toUInt8]) := by decide +kernel
section
attribute [local go_sem] opx opE ev okx gcond bnd okO AV.get AV.okb cAV upd_at putd_some putd_none wrs_nil wrs_cons look_nil look_cons st argT_at bpick_and bpick_or bpick_true bpick_false binV binI binS binVOk binOk isShift binSOk unV unVOk loadV loadP cellsA zeroA Blkd.len setE grown moreA moreR moreOk eqRes pv fillA fillE putSeg AV.cellish AV.pureL AV.pureB lentL_is ex_some AV.ren AV.renL renL_c Blkd.ren rho wrM renN lentOk rhoE keepM endOk tyA_2 tyA_3 tyA_4 tyA_5 tyA_6 tyA_7 tyA_8 tyA_9 tyA_10 tyA_11 tyA_12 tyA_13 tyA_14 tyA_15 tyA_16 tyA_17 tyA_18 tyA_19 tyA_21 tyA_22 tyA_23 tyA_24 tyA_29 tyA_30 tyA_31 tyA_32 tyA_33 tyA_34 tyA_35 tyA_36 tyA_37 tyA_38 tyA_39 tyA_40 tyA_41 tyA_42 tyA_43 tyA_48 tyA_89 tyA_93 tyA_107 tyA_108 tyA_109 tyA_113 tyA_114 tyA_115 tyA_116 tyA_117 tyA_119 tyA_120 tyA_121 tyA_122 tyA_131 tyA_134 tyA_135 tyA_136 tyA_137 tyA_138 tyA_154 tyA_156 tyA_157 tyA_158 tyA_159 tyA_170 tyA_180 tyA_181 tyA_182 tyA_196 tyA_202 tyA_208 tyA_209 tyA_210 tyA_211 tyA_212 tyA_213 tyA_229 tyA_230 tyA_231 tyA_241 tyA_264 tyA_268 tyA_293 tyA_294 tyA_295 tyA_311 tyA_313 tyA_321 tyA_326 tyA_334 tyA_338 tyA_340 tyA_343 tyA_344 tyA_345 tyA_346 tyA_347 tyA_348 tyA_349 tyA_351 tyA_352 Option.map_some Option.map_none Option.getD_some Option.getD_none Option.bind_some Option.bind_none List.getElem?_cons_zero List.getElem?_cons_succ List.getElem?_nil List.getElem?_toArray List.length_cons List.length_nil List.length_map List.forall_mem_map List.map_cons List.map_nil List.drop_zero List.drop_succ_cons List.drop_nil List.take_zero List.take_succ_cons List.take_nil List.mem_cons List.not_mem_nil or_false forall_eq_or_imp forall_eq List.set_cons_zero List.set_cons_succ List.cons_append List.nil_append List.append_nil List.foldl_cons List.foldl_nil List.replicate_succ List.replicate_zero List.all_cons List.all_nil if_true if_false Bool.false_eq_true ne_eq not_false_eq_true not_true_eq_false true_and and_true and_self true_implies imp_self implies_true forall_const beq_self_eq_true Bool.and_true Bool.true_and Bool.and_false Bool.false_and Bool.or_true Bool.true_or Bool.or_false Bool.false_or Bool.not_true Bool.not_false Bool.not_eq_eq_eq_not intKindOf Value.oneCell' Int.toNat_natCast beq_true beq_false Bool.not_eq_true false_implies false_or true_or or_true Nat.zero_add Nat.add_zero decide_true decide_false Int.cast_ofNat_Int Int.toNat_zero Int.toNat_one eq_self

def bA (l : List UInt8) : List (List AV) := l.map fun b => [AV.c (.v (.int .u8 (b.toNat : Int)))]
theorem bA_len (l : List UInt8) : (bA l).length = l.length := by simp [bA]
theorem bA_at {l : List UInt8} {i : Nat} {x : UInt8} (h : l[i]? = some x) : (bA l)[i]? = some [AV.c (.v (.int .u8 (x.toNat : Int)))] := by simp [bA, h]
theorem bA_set (l : List UInt8) (i : Nat) (x : UInt8) : (bA l).set i [AV.c (.v (.int .u8 (x.toNat : Int)))] = bA (l.set i x) := by simp [bA, List.map_set]
theorem bA_app (l m : List UInt8) : bA l ++ bA m = bA (l ++ m) := by simp [bA]
theorem bA_one (l : List UInt8) (x : UInt8) : bA l ++ [[AV.c (.v (.int .u8 (x.toNat : Int)))]] = bA (l ++ [x]) := by simp [bA]
theorem bA_nil : bA [] = [] := rfl
theorem bA_cons (x : UInt8) (l : List UInt8) : bA (x :: l) = [AV.c (.v (.int .u8 (x.toNat : Int)))] :: bA l := rfl
theorem bA_pv (l : List UInt8) : bA l = (bytePV l).map fun e => e.map AV.c := by simp [bA, bytePV]
theorem bA_ren (ρ : Nat → Nat) (l : List UInt8) : (bA l).map (AV.renL ρ) = bA l := by
  induction l with
  | nil => rfl
  | cons x l ih => rw [bA_cons, List.map_cons, ih]; rfl
theorem bA_sc {used : Nat → Prop} {h : Nat → Option Blkd} (l : List UInt8) : (∀ e ∈ bA l, ∀ x ∈ e, Sc used h x) = True := eq_true fun e he x hx => by
  obtain ⟨b, _, rfl⟩ := List.mem_map.1 he
  simp at hx
  subst hx
  exact .c
def bB (l : List UInt8) : Blkd := ⟨true, 5, 1, bA l⟩
set_option maxRecDepth 100000 in
set_option maxHeartbeats 800000 in
theorem reverse_told (l : List UInt8) (hl : l.length ≤ 1099511627776) : ToldM Tryz.prog 276 [.row 1000000 l.length] [bB l] [some (bB l.reverse)] (.tup []) := by
  unfold bB
  refine VC.toldM ent_276 [] Tryz.func276 rfl Tryz.ntmps276 (by simp) (by simp only [ bA_len, bA_sc, ScM, zOk, inL, eq_self, used_is, sc_any, sc_c, sc_pp, sc_ref, sc_row, sc_agg, sc_tup, sc_fn, ScL, some_imp, List.forall_mem_map, Nat.le_refl, go_sem, simprocAttr]) (by simp only [ bA_len, bA_sc, ScM, zOk, inL, eq_self, used_is, sc_any, sc_c, sc_pp, sc_ref, sc_row, sc_agg, sc_tup, sc_fn, ScL, some_imp, List.forall_mem_map, Nat.le_refl, go_sem, simprocAttr]) (by simp only [ bA_len, bA_sc, ScM, zOk, inL, eq_self, used_is, sc_any, sc_c, sc_pp, sc_ref, sc_row, sc_agg, sc_tup, sc_fn, ScL, some_imp, List.forall_mem_map, Nat.le_refl, go_sem, simprocAttr]) (by simp only [ bA_len, bA_sc, ScM, zOk, inL, eq_self, used_is, sc_any, sc_c, sc_pp, sc_ref, sc_row, sc_agg, sc_tup, sc_fn, ScL, some_imp, List.forall_mem_map, Nat.le_refl, go_sem, simprocAttr]) (by simp) fun hb hbL => ?_
  clear hb hbL
  have hw0 : IntKind.i64.wrap ((l.length : Int) - 1) = (l.length : Int) - 1 := wrap64_id (by omega) (by omega)
  refine walkGF (And.intro @bA_len hw0) ?_
  refine VC.loop (ι := {p : Nat × List UInt8 // p.2.length = l.length ∧ 2 * p.1 ≤ l.length ∧ ∀ k, k < l.length → p.2[k]? = if k < p.1 ∨ l.length ≤ k + p.1 then l[l.length - 1 - k]? else l[k]?})
    (fun p => [(0, .row 1000000 l.length), (2, .c (.v (.int .i64 p.1.1))), (3, .c (.v (.int .i64 ((l.length : Int) - 1 - (p.1.1 : Int)))))]) (fun p => [(1000000, ⟨true, 5, 1, bA p.1.2⟩)]) 0 (fun p => l.length - p.1.1)
    ⟨(0, l), rfl, by simp, fun k hk => by simp only []; rw [if_neg (by omega)]⟩ ?_ ?_
  · simp only [bA_len, bA_sc, Weak, eq_self, used_is, sc_any, sc_c, sc_pp, sc_ref, sc_row, sc_agg, sc_fn, ScL, some_imp, List.forall_mem_map, go_sem, Int.reduceBEq, Int.reduceLE, Int.reduceLT, Int.reduceNeg, Nat.reduceAdd, Nat.reduceEqDiff, Nat.reduceLT, Nat.reduceLeDiff, Nat.reduceMul, Nat.reduceSub, reduceCtorEq, ↓reduceIte]
    simp
  rintro ⟨⟨i, c⟩, hcl, hi, hk⟩
  simp only [] at hcl hi hk ⊢
  refine walkGF (@bA_len) ?_
  refine VC.cond (by rfl) (by trivial) (fun hc => ?_) (fun hc => ?_)
  · have hij : (i : Int) < (l.length : Int) - 1 - (i : Int) := by simpa using hc
    obtain ⟨j, hj⟩ : ∃ j : Nat, (l.length : Int) - 1 - (i : Int) = (j : Int) := ⟨l.length - 1 - i, by omega⟩
    obtain ⟨x, hx⟩ : ∃ x, c[i]? = some x := ⟨c[i]'(by omega), List.getElem?_eq_getElem _⟩
    obtain ⟨y, hy⟩ : ∃ y, c[j]? = some y := ⟨c[j]'(by omega), List.getElem?_eq_getElem _⟩
    have hx1 := bA_at hx
    have hy1 := bA_at hy
    have hy2 : ((bA c).set i [AV.c (.v (.int .u8 (y.toNat : Int)))])[j]? = some [AV.c (.v (.int .u8 (y.toNat : Int)))] := by
      rw [List.getElem?_set_ne (by omega)]; exact hy1
    have hw1 : IntKind.i64.wrap ((i : Int) + 1) = (i : Int) + 1 := wrap64_id (by omega) (by omega)
    have hw2 : IntKind.i64.wrap ((j : Int) - 1) = (j : Int) - 1 := wrap64_id (by omega) (by omega)
    rw [hj]
    (repeat (first | refine pass ?_ | refine VC.region (by rfl) (by rfl) ?_ | (refine AO.step fun K hK => ?_; simp only [bA_len, hx1, hy1, hy2, hw1, hw2, hcl, List.length_set, go_sem, Int.reduceBEq, Int.reduceLE, Int.reduceLT, Int.reduceNeg, Nat.reduceAdd, Nat.reduceEqDiff, Nat.reduceLT, Nat.reduceLeDiff, Nat.reduceMul, Nat.reduceSub, reduceCtorEq, ↓reduceIte]; (first | refine gsel_skip ?_ | refine gsel_go ?_ | skip); (first | refine hK _ _ _ ?_ | refine ⟨by first | omega | exact ⟨_, rfl, rfl⟩ | exact fun _ => ⟨_, rfl, rfl⟩ | (intro h; simp only [bA_len, hx1, hy1, hy2, hw1, hw2, hcl, List.length_set, h, true_and]; omega) | (clear hK; intro h; simp_all <;> omega), hK _ _ _ ?_⟩); clear hK K) | refine VC.draw mixP (by rfl) (by rfl) ?_ | refine ⟨okd_of (by kernel_rfl), ?_⟩ | refine BQ.other (by decide) ?_ | refine VC.seq ?_ | refine AO.nil ?_ | refine VC.block ?_))
    refine .next ⟨(i + 1, (c.set i y).set j x), by simpa using hcl, by simp only []; omega, fun k hkl => ?_⟩ ?_ (by simp only []; omega)
    · simp only []
      have hki := hk i (by omega)
      have hkj := hk j (by omega)
      rw [if_neg (by omega)] at hki hkj
      rw [List.getElem?_set, List.getElem?_set]
      by_cases h1 : j = k
      · subst h1
        rw [if_pos rfl, if_pos (by simp; omega), if_pos (by omega), ← hx, hki]
        congr 1
        omega
      · rw [if_neg h1]
        by_cases h2 : i = k
        · subst h2
          rw [if_pos rfl, if_pos (by omega), if_pos (by omega), ← hy, hkj]
          congr 1
          omega
        · rw [if_neg h2, hk k hkl]
          by_cases h3 : k < i ∨ l.length ≤ k + i
          · rw [if_pos h3, if_pos (by omega)]
          · rw [if_neg h3, if_neg (by omega)]
    · simp only [bA_len, bA_sc, bA_set, List.length_set, Weak, eq_self, used_is, sc_any, sc_c, sc_pp, sc_ref, sc_row, sc_agg, sc_fn, ScL, some_imp, List.forall_mem_map, go_sem, Int.reduceBEq, Int.reduceLE, Int.reduceLT, Int.reduceNeg, Nat.reduceAdd, Nat.reduceEqDiff, Nat.reduceLT, Nat.reduceLeDiff, Nat.reduceMul, Nat.reduceSub, reduceCtorEq, ↓reduceIte]
      exact ⟨⟨cI (by omega), cI (by omega)⟩, by omega⟩
  · have hij : ¬ (i : Int) < (l.length : Int) - 1 - (i : Int) := by simpa using hc
    have hfin : c = l.reverse := by
      apply List.ext_getElem?
      intro k
      by_cases hkl : k < l.length
      · rw [hk k hkl, List.getElem?_reverse hkl]
        by_cases h3 : k < i ∨ l.length ≤ k + i
        · rw [if_pos h3]
        · rw [if_neg h3]; congr 1; omega
      · rw [List.getElem?_eq_none (by omega), List.getElem?_eq_none (by simp; omega)]
    subst hfin
    refine walkG ?_
    refine ⟨by first | exact .inr rfl | exact .inl rfl, ?_⟩; rw [Tryz.results276]; simp only [bA_ren, resOk, resV, go_sem, Int.reduceBEq, Int.reduceLE, Int.reduceLT, Int.reduceNeg, Nat.reduceAdd, Nat.reduceEqDiff, Nat.reduceLT, Nat.reduceLeDiff, Nat.reduceMul, Nat.reduceSub, reduceCtorEq, ↓reduceIte]
def digs (u : Nat) : List UInt8 := if h : u < 10 then [UInt8.ofNat (48 + u)] else digs (u / 10) ++ [UInt8.ofNat (48 + u % 10)]
theorem digs_lt {u : Nat} (h : u < 10) : digs u = [UInt8.ofNat (48 + u)] := by rw [digs, dif_pos h]
theorem digs_ge {u : Nat} (h : ¬ u < 10) : digs u = digs (u / 10) ++ [UInt8.ofNat (48 + u % 10)] := by rw [digs, dif_neg h]
theorem digs_len : ∀ (k u : Nat), u < 10 ^ (k + 1) → (digs u).length ≤ k + 1
  | 0, u, h => by rw [digs_lt (by omega)]; simp
  | k + 1, u, h => by
    by_cases h1 : u < 10
    · rw [digs_lt h1]; simp
    · rw [digs_ge h1]
      have := digs_len k (u / 10) (by rw [Nat.pow_succ] at h; omega)
      simp
      omega
def mNumb (n : Int) : List UInt8 := (if n < 0 then [45] else []) ++ digs n.natAbs
theorem numb_digit (u : Nat) : IntKind.u8.wrap (IntKind.u64.wrap (48 + ((u % 10 : Nat) : Int))) = ((UInt8.ofNat (48 + u % 10)).toNat : Int) := by
  rw [UInt8.toNat_ofNat', IntWalk.u64_in _ ⟨by omega, by omega⟩, IntWalk.u8_in _ ⟨by omega, by omega⟩]
  omega
set_option maxRecDepth 100000 in
set_option maxHeartbeats 800000 in
theorem number_told (l : List UInt8) (n : Int) (hl : l.length ≤ 1099511620000) (h1 : -9223372036854775808 ≤ n) (h2 : n ≤ 9223372036854775807) :
    ToldM Tryz.prog 235 [.row 1000000 l.length, .c (.v (.int .i64 n))] [bB l] [some (bB (l ++ mNumb n))] (.row 1000000 (l ++ mNumb n).length) := by
  unfold bB
  refine VC.toldM ent_235 [] Tryz.func235 rfl Tryz.ntmps235 (by simp) (by simp only [ bA_len, bA_sc, ScM, zOk, inL, eq_self, used_is, sc_any, sc_c, sc_pp, sc_ref, sc_row, sc_agg, sc_tup, sc_fn, ScL, some_imp, List.forall_mem_map, Nat.le_refl, go_sem, simprocAttr]) (by simp only [ bA_len, bA_sc, ScM, zOk, inL, eq_self, used_is, sc_any, sc_c, sc_pp, sc_ref, sc_row, sc_agg, sc_tup, sc_fn, ScL, some_imp, List.forall_mem_map, Nat.le_refl, go_sem, simprocAttr]) (by simp only [ bA_len, bA_sc, ScM, zOk, inL, eq_self, used_is, sc_any, sc_c, sc_pp, sc_ref, sc_row, sc_agg, sc_tup, sc_fn, ScL, some_imp, List.forall_mem_map, Nat.le_refl, go_sem, simprocAttr]) (by simp only [ bA_len, bA_sc, ScM, zOk, inL, eq_self, used_is, sc_any, sc_c, sc_pp, sc_ref, sc_row, sc_agg, sc_tup, sc_fn, ScL, some_imp, List.forall_mem_map, Nat.le_refl, go_sem, simprocAttr]) (by simp) fun hb hbL => ?_
  clear hb hbL
  obtain ⟨u, hu⟩ : ∃ u, u = n.natAbs := ⟨_, rfl⟩
  obtain ⟨p, hp⟩ : ∃ p : List UInt8, p = if n < 0 then [45] else [] := ⟨_, rfl⟩
  have hm : mNumb n = p ++ digs u := by rw [hu, hp]; rfl
  rw [hm]
  refine walkGF (@bA_len) ?_
  have hp1 : p.length ≤ 1 := by rw [hp]; split <;> simp
  have hul : u < 10 ^ 20 := by omega
  have hdl := digs_len 19 u hul
  refine VC.meet [(0, .row 1000000 (l ++ p).length), (5, .c (.v (.int .u64 (u : Int))))] [(1000000, ⟨true, 5, 1, bA (l ++ p)⟩)] 56 ?_ ?_
  · refine VC.cond (by rfl) (by trivial) (fun hc => ?_) (fun hc => ?_)
    · have hn : n < 0 := by simpa using hc
      rw [if_pos hn] at hp
      subst hp
      have hw : IntKind.u64.wrap (0 - IntKind.u64.wrap n) = (u : Int) := by
        rw [IntKind.wrap_u64, IntKind.wrap_u64]
        omega
      refine walkGF (And.intro @bA_len hw) ?_
      refine .normal ?_
      simp only [bA_len, bA_sc, hw, Weak, eq_self, used_is, sc_any, sc_c, sc_pp, sc_ref, sc_row, sc_agg, sc_fn, ScL, some_imp, List.forall_mem_map, go_sem, Int.reduceBEq, Int.reduceLE, Int.reduceLT, Int.reduceNeg, Nat.reduceAdd, Nat.reduceEqDiff, Nat.reduceLT, Nat.reduceLeDiff, Nat.reduceMul, Nat.reduceSub, reduceCtorEq, ↓reduceIte]
      simp [bA]
    · have hn : ¬ n < 0 := by simpa using hc
      rw [if_neg hn] at hp
      subst hp
      have hw : IntKind.u64.wrap n = (u : Int) := by rw [IntWalk.u64_in _ ⟨by omega, by omega⟩]; omega
      refine walkGF (And.intro @bA_len hw) ?_
      refine .normal ?_
      simp only [bA_len, bA_sc, hw, List.append_nil, Nat.le_refl, Weak, eq_self, used_is, sc_any, sc_c, sc_pp, sc_ref, sc_row, sc_agg, sc_fn, ScL, some_imp, List.forall_mem_map, go_sem, Int.reduceBEq, Int.reduceLE, Int.reduceLT, Int.reduceNeg, Nat.reduceAdd, Nat.reduceEqDiff, Nat.reduceLT, Nat.reduceLeDiff, Nat.reduceMul, Nat.reduceSub, reduceCtorEq, ↓reduceIte]
  (refine VC.seq ?_; (first | refine VC.region (by rfl) (by rfl) ?_ | refine VC.draw mixP (by rfl) (by rfl) ?_); (repeat (refine AO.step fun K hK => ?_; simp only [go_sem, Int.reduceBEq, Int.reduceLE, Int.reduceLT, Int.reduceNeg, Nat.reduceAdd, Nat.reduceEqDiff, Nat.reduceLT, Nat.reduceLeDiff, Nat.reduceMul, Nat.reduceSub, reduceCtorEq, ↓reduceIte]; (first | refine gsel_skip ?_ | refine gsel_go ?_ | skip); (first | refine hK _ _ _ ?_ | refine ⟨by first | omega | exact ⟨_, rfl, rfl⟩ | exact fun _ => ⟨_, rfl, rfl⟩ | (intro h; simp only [h, true_and]; omega) | (clear hK; intro h; simp_all <;> omega), hK _ _ _ ?_⟩); clear hK K)); refine AO.nil ?_; first | refine SQ.normal ?_ | refine ⟨okd_of (by kernel_rfl), SQ.normal ?_⟩)
  refine VC.nil 6 5 1 (by rfl) (by trivial) (by rfl) ?_
  refine VC.seq (VC.block ?_)
  refine VC.loop (ι := {q : Nat × List UInt8 // q.1 ≤ u ∧ digs u = digs q.1 ++ q.2.reverse}) (fun q => [(0, .row 1000000 (l ++ p).length), (5, .c (.v (.int .u64 (q.1.1 : Int)))), (6, .row 64 q.1.2.length)])
    (fun q => [(1000000, ⟨true, 5, 1, bA (l ++ p)⟩), (64, ⟨true, 5, 1, bA q.1.2⟩)]) 72 (fun q => q.1.1) ⟨(u, []), Nat.le_refl _, by simp⟩ ?_ ?_
  · simp only [bA_len, bA_sc, Weak, eq_self, used_is, sc_any, sc_c, sc_pp, sc_ref, sc_row, sc_agg, sc_fn, ScL, some_imp, List.forall_mem_map, go_sem, Int.reduceBEq, Int.reduceLE, Int.reduceLT, Int.reduceNeg, Nat.reduceAdd, Nat.reduceEqDiff, Nat.reduceLT, Nat.reduceLeDiff, Nat.reduceMul, Nat.reduceSub, reduceCtorEq, ↓reduceIte]
    simp [bA_nil]
  rintro ⟨⟨v, ds⟩, hv, hd⟩
  simp only [] at hv hd ⊢
  have hdl2 : ds.length ≤ 20 := by rw [hd] at hdl; simp at hdl; omega
  have hdig : IntKind.u8.wrap (IntKind.u64.wrap (48 + ((v : Int).tmod 10))) = ((UInt8.ofNat (48 + v % 10)).toNat : Int) := by
    rw [← numb_digit v]
    rfl
  refine walkGF (@bA_len) ?_
  refine VC.cond (by rfl) (by trivial) (fun hc => ?_) (fun hc => ?_)
  · have hv9 : ¬ v < 10 := by simp at hc; omega
    have hq : IntKind.u64.wrap ((v : Int).tdiv 10) = ((v / 10 : Nat) : Int) := by rw [IntWalk.u64_quo _ _ ⟨by omega, by omega, by omega⟩]; omega
    refine walkGF (And.intro @bA_len (And.intro hdig hq)) ?_
    refine .next ⟨(v / 10, ds ++ [UInt8.ofNat (48 + v % 10)]), by simp only []; omega, by simp only []; rw [hd, digs_ge hv9]; simp⟩ ?_ (by simp only []; omega)
    simp only [bA_len, bA_sc, bA_one, Weak, eq_self, used_is, sc_any, sc_c, sc_pp, sc_ref, sc_row, sc_agg, sc_fn, ScL, some_imp, List.forall_mem_map, go_sem, Int.reduceBEq, Int.reduceLE, Int.reduceLT, Int.reduceNeg, Nat.reduceAdd, Nat.reduceEqDiff, Nat.reduceLT, Nat.reduceLeDiff, Nat.reduceMul, Nat.reduceSub, reduceCtorEq, ↓reduceIte]
    simp
  · have hv9 : v < 10 := by simp at hc; omega
    have hvm : IntKind.u8.wrap (IntKind.u64.wrap (48 + (v : Int))) = ((UInt8.ofNat (48 + v)).toNat : Int) := by
      have := numb_digit v
      rwa [Nat.mod_eq_of_lt hv9] at this
    obtain ⟨es, hes⟩ : ∃ es, es = ds ++ [UInt8.ofNat (48 + v)] := ⟨_, rfl⟩
    have hel : ds.length + 1 = es.length := by rw [hes]; simp
    have hbo : bA ds ++ [[AV.c (.v (.int .u8 ((UInt8.ofNat (48 + v)).toNat : Int)))]] = bA es := by rw [hes, bA_one]
    have hds : digs u = es.reverse := by rw [hd, hes, digs_lt hv9]; simp
    have hrl : es.length ≤ 20 := by rw [hds] at hdl; simpa using hdl
    refine walkGF (And.intro @bA_len (And.intro hvm (And.intro hel hbo))) ?_
    have hlp : (l ++ p).length ≤ 1099511620001 := by simp; omega
    ((refine AO.step fun K hK => ?_; simp only [go_sem, Int.reduceBEq, Int.reduceLE, Int.reduceLT, Int.reduceNeg, Nat.reduceAdd, Nat.reduceEqDiff, Nat.reduceLT, Nat.reduceLeDiff, Nat.reduceMul, Nat.reduceSub, reduceCtorEq, ↓reduceIte, bA_len, bB, bA_ren, hel, hbo]; (first | refine gsel_go ?_ | skip)); refine .inr (.inr (.inl ⟨?vy1, [64], ?va1, ?vl1, ?vm1, ?cond1, ?cont1⟩)); (case cond1 => ((repeat' apply And.intro) <;> (try ((with_reducible show ToldM _ _ _ _ _ _); exact reverse_told es (by omega)))); (all_goals first | trivial | (simp only [bA_len, bB, bA_ren, hel, hbo, go_sem, simprocAttr]; done) | (simp; done) | rfl)); (first | refine hK _ _ _ ?_ | (simp only [bA_len, bB, bA_ren, hel, hbo, go_sem, simprocAttr]; first | refine hK _ _ _ ?_ | refine ⟨rfl, hK _ _ _ ?_⟩)); clear hK K)
    (repeat (first | refine pass ?_ | refine VC.region (by rfl) (by rfl) ?_ | (refine AO.step fun K hK => ?_; simp only [bA_len, bB, bA_ren, List.length_reverse, go_sem, Int.reduceBEq, Int.reduceLE, Int.reduceLT, Int.reduceNeg, Nat.reduceAdd, Nat.reduceEqDiff, Nat.reduceLT, Nat.reduceLeDiff, Nat.reduceMul, Nat.reduceSub, reduceCtorEq, ↓reduceIte]; (first | refine gsel_skip ?_ | refine gsel_go ?_ | skip); (first | refine hK _ _ _ ?_ | refine ⟨by first | omega | exact ⟨_, rfl, rfl⟩ | exact fun _ => ⟨_, rfl, rfl⟩ | (intro h; simp only [bA_len, bB, bA_ren, List.length_reverse, h, true_and]; omega) | (clear hK; intro h; simp_all <;> omega), hK _ _ _ ?_⟩); clear hK K) | refine VC.draw mixP (by rfl) (by rfl) ?_ | refine ⟨okd_of (by kernel_rfl), ?_⟩ | refine BQ.other (by decide) ?_ | refine VC.seq ?_ | refine AO.nil ?_ | refine VC.block ?_))
    have hfin : l ++ p ++ es.reverse = l ++ (p ++ digs u) := by rw [hds]; simp
    have hfl : (l ++ p).length + es.length = (l ++ (p ++ digs u)).length := by rw [hds]; simp; omega
    refine ⟨by first | exact .inr rfl | exact .inl rfl, ?_⟩; rw [Tryz.results235]; simp only [bA_ren, bA_app, hfin, hfl, resOk, resV, go_sem, Int.reduceBEq, Int.reduceLE, Int.reduceLT, Int.reduceNeg, Nat.reduceAdd, Nat.reduceEqDiff, Nat.reduceLT, Nat.reduceLeDiff, Nat.reduceMul, Nat.reduceSub, reduceCtorEq, ↓reduceIte]
    exact .keepW rfl

theorem indexByte_told (s : ByteArray) (c : Int) : Told Tryz.prog 110 [.c (.v (.string s)), .c (.v (.int .u8 c))] (.c (.v (.int .i64 (Lib.indexByte s.data.toList c.toNat.toUInt8)))) :=
  told_plain (xs := [.string s, .int .u8 c]) ent_110 rfl fun W => Tryz.strings_IndexByte s c W
theorem and15 : ∀ y : Nat, y < 256 → IntKind.u8.wrap ((BitVec.ofInt IntKind.u8.bits ((y : Nat) : Int) &&& BitVec.ofInt IntKind.u8.bits 15).toNat : Int) = ((y % 16 : Nat) : Int) := by decide +kernel
theorem shr4 (y : Nat) : ((y : Nat) : Int).fdiv (2 ^ min (4 : Int).toNat IntKind.u8.bits) = ((y / 16 : Nat) : Int) := by
  rw [show min (4 : Int).toNat IntKind.u8.bits = 4 from rfl, Int.fdiv_eq_ediv_of_nonneg _ (by decide)]
  rfl
set_option maxRecDepth 100000 in
set_option maxHeartbeats 800000 in
theorem quote_told (l s : List UInt8) (hl : l.length ≤ 1000000000) (hs : s.length ≤ 1000000000) :
    ToldM Tryz.prog 236 [.row 1000000 l.length, .c (.v (.string (str s)))] [bB l] [some (bB (l ++ mQuote s))] (.row 1000000 (l ++ mQuote s).length) := by
  have hql := quote_len s
  unfold bB
  refine VC.toldM ent_236 [] Tryz.func236 rfl Tryz.ntmps236 (by simp) (by simp only [ bA_len, bA_sc, ScM, zOk, inL, eq_self, used_is, sc_any, sc_c, sc_pp, sc_ref, sc_row, sc_agg, sc_tup, sc_fn, ScL, some_imp, List.forall_mem_map, Nat.le_refl, go_sem, simprocAttr]) (by simp only [ bA_len, bA_sc, ScM, zOk, inL, eq_self, used_is, sc_any, sc_c, sc_pp, sc_ref, sc_row, sc_agg, sc_tup, sc_fn, ScL, some_imp, List.forall_mem_map, Nat.le_refl, go_sem, simprocAttr]) (by simp only [ bA_len, bA_sc, ScM, zOk, inL, eq_self, used_is, sc_any, sc_c, sc_pp, sc_ref, sc_row, sc_agg, sc_tup, sc_fn, ScL, some_imp, List.forall_mem_map, Nat.le_refl, go_sem, simprocAttr]) (by simp only [ bA_len, bA_sc, ScM, zOk, inL, eq_self, used_is, sc_any, sc_c, sc_pp, sc_ref, sc_row, sc_agg, sc_tup, sc_fn, ScL, some_imp, List.forall_mem_map, Nat.le_refl, go_sem, simprocAttr]) (by simp) fun hb hbL => ?_
  clear hb hbL
  refine walkGF (And.intro @bA_len @str_size) ?_
  refine VC.loop (ι := {q : Nat × List UInt8 // q.1 ≤ s.length ∧ q.2 = l ++ 34 :: (s.take q.1).flatMap qByte ∧ q.2.length ≤ l.length + 1 + 6 * q.1}) (fun q => [(0, .row 1000000 q.1.2.length), (1, .c (.v (.string (str s)))), (12, .c (.v (.int .i64 (s.length : Int)))), (13, .c (.v (.int .i64 (q.1.1 : Int))))])
    (fun q => [(1000000, ⟨true, 5, 1, bA q.1.2⟩)]) 200 (fun q => s.length - q.1.1) ⟨(0, l ++ [34]), Nat.zero_le _, by simp, by simp⟩ ?_ ?_
  · simp only [bA_len, bA_sc, Weak, eq_self, used_is, sc_any, sc_c, sc_pp, sc_ref, sc_row, sc_agg, sc_fn, ScL, some_imp, List.forall_mem_map, go_sem, Int.reduceBEq, Int.reduceLE, Int.reduceLT, Int.reduceNeg, Nat.reduceAdd, Nat.reduceEqDiff, Nat.reduceLT, Nat.reduceLeDiff, Nat.reduceMul, Nat.reduceSub, reduceCtorEq, ↓reduceIte]
    simp [bA]
  rintro ⟨⟨i, c⟩, hi, hcc, hcl⟩
  simp only [] at hi hcc hcl ⊢
  refine walkGF (@bA_len) ?_
  refine VC.cond (by rfl) (by trivial) (fun hc => ?_) (fun hc => ?_)
  · have hlt : i < s.length := by simp at hc; omega
    obtain ⟨x, hx⟩ : ∃ x, s[i]? = some x := ⟨s[i], List.getElem?_eq_getElem hlt⟩
    obtain ⟨y, hy⟩ : ∃ y, y = x.toNat := ⟨_, rfl⟩
    have hxy : x = y.toUInt8 := by rw [hy]; simp
    have hy256 : y < 256 := by rw [hy]; exact x.toNat_lt
    have hq := q_cases y hy256
    have hI := indexByte_told ⟨#[34, 92, 47, 8, 12, 10, 13, 9]⟩ (y : Int)
    rw [show Lib.indexByte (⟨#[34, 92, 47, 8, 12, 10, 13, 9]⟩ : ByteArray).data.toList (y : Int).toNat.toUInt8 = qIdx y from rfl] at hI
    have hw : IntKind.i64.wrap ((i : Int) + 1) = (i : Int) + 1 := wrap64_id (by omega) (by omega)
    have hn : ∀ p, qByte y.toUInt8 = p → (c ++ p) = l ++ 34 :: (s.take (i + 1)).flatMap qByte ∧ (c ++ p).length ≤ l.length + 1 + 6 * (i + 1) := by
      intro p hp
      have hqx := qByte_len y.toUInt8
      rw [hp] at hqx
      refine ⟨?_, by rw [List.length_append]; omega⟩
      rw [take_next hx, hcc, hxy, hp]
      simp
    refine walkGF (And.intro @bA_len (And.intro @str_size (And.intro @str_dl (And.intro hx hy.symm)))) ?_
    refine walkCF (hy.symm) (hI) ?_
    refine walkGF (@bA_len) ?_
    refine VC.cond (by rfl) (by trivial) (fun h1 => ?_) (fun h1 => ?_)
    · rw [if_pos (by simp at h1; omega)] at hq
      obtain ⟨hk8, hqb⟩ := hq
      have hk0 : 0 ≤ qIdx y := by simp at h1; omega
      obtain ⟨e1, e2⟩ := hn _ hqb
      have hkn : (qIdx y).toNat < 8 := by omega
      have z1 : (⟨#[34, 92, 47, 98, 102, 110, 114, 116]⟩ : ByteArray).size = 8 := rfl
      have z2 : (((⟨#[34, 92, 47, 98, 102, 110, 114, 116]⟩ : ByteArray).data.toList)[(qIdx y).toNat]?).getD 0 = qEsc (qIdx y) := rfl
      refine walkGF (And.intro @bA_len (And.intro z1 (And.intro z2 hw))) ?_
      refine .next ⟨(i + 1, c ++ [92, qEsc (qIdx y)]), by simp only []; omega, e1, e2⟩ ?_ (by simp only []; omega)
      simp only [bA_len, bA_sc, Weak, eq_self, used_is, sc_any, sc_c, sc_pp, sc_ref, sc_row, sc_agg, sc_fn, ScL, some_imp, List.forall_mem_map, go_sem, Int.reduceBEq, Int.reduceLE, Int.reduceLT, Int.reduceNeg, Nat.reduceAdd, Nat.reduceEqDiff, Nat.reduceLT, Nat.reduceLeDiff, Nat.reduceMul, Nat.reduceSub, reduceCtorEq, ↓reduceIte]
      exact ⟨⟨by simp, cI (by omega)⟩, by simp [bA], Nat.le_refl _⟩
    · rw [if_neg (by simp at h1; omega)] at hq
      refine walkGF (@bA_len) ?_
      refine VC.cond (by rfl) (by trivial) (fun h2 => ?_) (fun h2 => ?_)
      · rw [if_pos (by simp at h2; omega)] at hq
        obtain ⟨e1, e2⟩ := hn _ hq
        have z1 : (⟨#[48, 49, 50, 51, 52, 53, 54, 55, 56, 57, 97, 98, 99, 100, 101, 102]⟩ : ByteArray).size = 16 := rfl
        have z2 : ∀ k : Nat, (((⟨#[48, 49, 50, 51, 52, 53, 54, 55, 56, 57, 97, 98, 99, 100, 101, 102]⟩ : ByteArray).data.toList)[k]?).getD 0 = qHex k := fun _ => rfl
        have z3 := and15 y hy256
        have z4 := shr4 y
        (try simp only [go_sem, Int.reduceBEq, Int.reduceLE, Int.reduceLT, Int.reduceNeg, Nat.reduceAdd, Nat.reduceEqDiff, Nat.reduceLT, Nat.reduceLeDiff, Nat.reduceMul, Nat.reduceSub, reduceCtorEq, ↓reduceIte] at z3)
        (try simp only [go_sem, Int.reduceBEq, Int.reduceLE, Int.reduceLT, Int.reduceNeg, Nat.reduceAdd, Nat.reduceEqDiff, Nat.reduceLT, Nat.reduceLeDiff, Nat.reduceMul, Nat.reduceSub, reduceCtorEq, ↓reduceIte] at z4)
        refine walkGF (And.intro @bA_len (And.intro z1 (And.intro z2 (And.intro z3 (And.intro z4 hw))))) ?_
        refine .next ⟨(i + 1, c ++ [92, 117, 48, 48, qHex (y / 16), qHex (y % 16)]), by simp only []; omega, e1, e2⟩ ?_ (by simp only []; omega)
        simp only [bA_len, bA_sc, Weak, eq_self, used_is, sc_any, sc_c, sc_pp, sc_ref, sc_row, sc_agg, sc_fn, ScL, some_imp, List.forall_mem_map, go_sem, Int.reduceBEq, Int.reduceLE, Int.reduceLT, Int.reduceNeg, Nat.reduceAdd, Nat.reduceEqDiff, Nat.reduceLT, Nat.reduceLeDiff, Nat.reduceMul, Nat.reduceSub, reduceCtorEq, ↓reduceIte]
        exact ⟨⟨by simp, cI (by omega)⟩, by simp [bA], Nat.le_refl _⟩
      · rw [if_neg (by simp at h2; omega)] at hq
        obtain ⟨e1, e2⟩ := hn _ hq
        refine walkGF (And.intro @bA_len hw) ?_
        refine .next ⟨(i + 1, c ++ [y.toUInt8]), by simp only []; omega, e1, e2⟩ ?_ (by simp only []; omega)
        simp only [bA_len, bA_sc, Weak, eq_self, used_is, sc_any, sc_c, sc_pp, sc_ref, sc_row, sc_agg, sc_fn, ScL, some_imp, List.forall_mem_map, go_sem, Int.reduceBEq, Int.reduceLE, Int.reduceLT, Int.reduceNeg, Nat.reduceAdd, Nat.reduceEqDiff, Nat.reduceLT, Nat.reduceLeDiff, Nat.reduceMul, Nat.reduceSub, reduceCtorEq, ↓reduceIte]
        rw [show (y : Int) = ((y.toUInt8).toNat : Int) from by rw [← hxy, hy], bA_one]
        exact ⟨⟨by simp, cI (by omega)⟩, rfl, Nat.le_refl _⟩
  · have hge : i = s.length := by simp at hc; omega
    subst hge
    rw [List.take_length] at hcc
    have hfin : c ++ [34] = l ++ mQuote s := by rw [hcc, mQuote]; simp
    have hfl : c.length + 1 = (l ++ mQuote s).length := by rw [← hfin]; simp
    refine walkGF (@bA_len) ?_
    refine ⟨by first | exact .inr rfl | exact .inl rfl, ?_⟩; rw [Tryz.results236]; simp only [bA_ren, bA_app, hfin, hfl, resOk, resV, go_sem, Int.reduceBEq, Int.reduceLE, Int.reduceLT, Int.reduceNeg, Nat.reduceAdd, Nat.reduceEqDiff, Nat.reduceLT, Nat.reduceLeDiff, Nat.reduceMul, Nat.reduceSub, reduceCtorEq, ↓reduceIte]
    exact ⟨by rw [← hfin]; simp [bA], .keepW rfl⟩
end

def rA {α : Type} (f : α → List PV) (l : List α) : List (List AV) := l.map fun x => (f x).map .c
theorem rA_len {α : Type} (f : α → List PV) (l : List α) : (rA f l).length = l.length := by simp [rA]
theorem rA_nil {α : Type} (f : α → List PV) : rA f [] = [] := rfl
theorem rA_at {α : Type} {f : α → List PV} {l : List α} {i : Nat} {x : α} (h : l[i]? = some x) : (rA f l)[i]? = some ((f x).map .c) := by simp [rA, h]
theorem rA_set {α : Type} {f : α → List PV} (l : List α) (i : Nat) (x : α) : (rA f l).set i ((f x).map .c) = rA f (l.set i x) := by simp [rA, List.map_set]
theorem rA_one {α : Type} (f : α → List PV) (l : List α) (x : α) : rA f l ++ [(f x).map .c] = rA f (l ++ [x]) := by simp [rA]
theorem rA_pv {α : Type} (f : α → List PV) (l : List α) : rA f l = (l.map f).map fun e => e.map AV.c := by simp [rA]
theorem renL_pv (ρ : Nat → Nat) : ∀ l : List PV, AV.renL ρ (l.map .c) = l.map .c
  | [] => rfl
  | x :: l => by rw [List.map_cons, AV.renL, renL_pv ρ l]; rfl
theorem rA_ren {α : Type} (ρ : Nat → Nat) (f : α → List PV) (l : List α) : (rA f l).map (AV.renL ρ) = rA f l := by
  unfold rA
  rw [List.map_map]
  apply List.map_congr_left
  intro x _
  exact renL_pv ρ _
theorem rA_sc {α : Type} {used : Nat → Prop} {h : Nat → Option Blkd} (f : α → List PV) (l : List α) : (∀ e ∈ rA f l, ∀ x ∈ e, Sc used h x) = True := eq_true fun e he x hx => by
  obtain ⟨b, _, rfl⟩ := List.mem_map.1 he
  obtain ⟨p, _, rfl⟩ := List.mem_map.1 hx
  exact .c
theorem frz_rA {α : Type} {K : Nat → Bool} {h : Nat → Option Blkd} {j n : Nat} {T : TypeId} {z : Nat} {f : α → List PV} {l : List α} (hB : h j = some ⟨true, T, z, rA f l⟩) (hn : l.length = n) (hk : K j = false) (hz : ∀ x ∈ l, (f x).length = z) :
    Frz K h (.row j n) (.c (.sl z (l.map f))) := by
  refine Frz.row (B := ⟨true, T, z, rA f l⟩) hB rfl ?_ hk ?_ ?_ ?_
  · show (rA f l).length = n
    rw [rA_len, hn]
  · simp [rA_len]
  · intro i e e' h1 h2
    rw [rA_pv, List.getElem?_map, h2] at h1
    obtain rfl := Option.some.inj h1
    simp
  · intro i k e e' x p h1 h2 h3 h4
    rw [rA_pv, List.getElem?_map, h2] at h1
    obtain rfl := Option.some.inj h1
    rw [List.getElem?_map, h4] at h3
    obtain rfl := Option.some.inj h3
    exact .c p
section
attribute [local go_sem] opx opE ev okx gcond bnd okO AV.get AV.okb cAV upd_at putd_some putd_none wrs_nil wrs_cons look_nil look_cons st argT_at bpick_and bpick_or bpick_true bpick_false binV binI binS binVOk binOk isShift binSOk unV unVOk loadV loadP cellsA zeroA Blkd.len setE grown moreA moreR moreOk eqRes pv fillA fillE putSeg AV.cellish AV.pureL AV.pureB lentL_is ex_some AV.ren AV.renL renL_c Blkd.ren rho wrM renN lentOk rhoE keepM endOk tyA_2 tyA_3 tyA_4 tyA_5 tyA_6 tyA_7 tyA_8 tyA_9 tyA_10 tyA_11 tyA_12 tyA_13 tyA_14 tyA_15 tyA_16 tyA_17 tyA_18 tyA_19 tyA_21 tyA_22 tyA_23 tyA_24 tyA_29 tyA_30 tyA_31 tyA_32 tyA_33 tyA_34 tyA_35 tyA_36 tyA_37 tyA_38 tyA_39 tyA_40 tyA_41 tyA_42 tyA_43 tyA_48 tyA_89 tyA_93 tyA_107 tyA_108 tyA_109 tyA_113 tyA_114 tyA_115 tyA_116 tyA_117 tyA_119 tyA_120 tyA_121 tyA_122 tyA_131 tyA_134 tyA_135 tyA_136 tyA_137 tyA_138 tyA_154 tyA_156 tyA_157 tyA_158 tyA_159 tyA_170 tyA_180 tyA_181 tyA_182 tyA_196 tyA_202 tyA_208 tyA_209 tyA_210 tyA_211 tyA_212 tyA_213 tyA_229 tyA_230 tyA_231 tyA_241 tyA_264 tyA_268 tyA_293 tyA_294 tyA_295 tyA_311 tyA_313 tyA_321 tyA_326 tyA_334 tyA_338 tyA_340 tyA_343 tyA_344 tyA_345 tyA_346 tyA_347 tyA_348 tyA_349 tyA_351 tyA_352 Option.map_some Option.map_none Option.getD_some Option.getD_none Option.bind_some Option.bind_none List.getElem?_cons_zero List.getElem?_cons_succ List.getElem?_nil List.getElem?_toArray List.length_cons List.length_nil List.length_map List.forall_mem_map List.map_cons List.map_nil List.drop_zero List.drop_succ_cons List.drop_nil List.take_zero List.take_succ_cons List.take_nil List.mem_cons List.not_mem_nil or_false forall_eq_or_imp forall_eq List.set_cons_zero List.set_cons_succ List.cons_append List.nil_append List.append_nil List.foldl_cons List.foldl_nil List.replicate_succ List.replicate_zero List.all_cons List.all_nil if_true if_false Bool.false_eq_true ne_eq not_false_eq_true not_true_eq_false true_and and_true and_self true_implies imp_self implies_true forall_const beq_self_eq_true Bool.and_true Bool.true_and Bool.and_false Bool.false_and Bool.or_true Bool.true_or Bool.or_false Bool.false_or Bool.not_true Bool.not_false Bool.not_eq_eq_eq_not intKindOf Value.oneCell' Int.toNat_natCast beq_true beq_false Bool.not_eq_true false_implies false_or true_or or_true Nat.zero_add Nat.add_zero decide_true decide_false Int.cast_ofNat_Int Int.toNat_zero Int.toNat_one eq_self
section

section
variable {P : Program} {ops : Array Oper} {o : Oper} {ℓ : Nat} {t : Nat → AV} {h : Nat → Option Blkd}
theorem J_indexG (s : TypeId) (g : Nat) (y : Operand) (T E : TyA) (es : List PV) (q : PV) (k : IntKind) (i : Int) (n e : Nat) (ho : o.op = .indexAddr s (.global g) y) (hg : glob P g = some es) (hy : okx t y) (ey : ev t y = .c (.v (.int k i)))
    (hT : tyA P s = some T) (hk : T.kind = 6) (hf : T.flds = [(n, e)]) (hE : tyA P e = some E) (hs : E.size = 1) (h0 : 0 ≤ i) (h1 : i < (n : Int)) (hq : es[i.toNat]? = some q) : J P o ℓ t h ⟨.pp [q], [], []⟩ := by
  refine J.val fun C used N t1 h1' ro φ a W ht hh r => ?_
  obtain ⟨h4, h5⟩ := ht y (by simp [ho, Op.operands])
  have ey' := rep_prim (h := h1') (by rw [← ey, ← h4]; exact ev_rep r y (h5 ▸ hy))
  have hv : a.eval (.global g) = .pointer (some ⟨g, 0, none⟩) := rfl
  obtain ⟨hro, vs, hc, hl⟩ := r.gok g es hg
  have hlt : i.toNat < vs.length := by
    have := (List.getElem?_eq_some_iff.1 hq).1
    have := hl.1
    omega
  obtain ⟨d, ii, g2, g3, rfl⟩ := tyA_some hT
  obtain ⟨n', e', rfl⟩ := kind_array hk
  obtain ⟨rfl, rfl⟩ : n' = n ∧ e' = e := by simpa [descFlds] using hf
  refine ⟨.pointer (some ⟨g, i.toNat, none⟩), ?_, ?_, .pp⟩
  · simp [execOp, ho, hv, ey', Instr.indexAt, asIntOf, run_underlying g2, Instr.sureAddr, h0, h1, run_size hE, hs, addr_add]
  · refine .pp hro (cells := [q]) (vs := [vs[i.toNat]]) ?_ ⟨rfl, fun j p v h1 h2 => ?_⟩
    · have := hc.sub i.toNat 1
      rw [Nat.zero_add, List.drop_eq_getElem_cons hlt, List.take_succ_cons, List.take_zero] at this
      exact this
    · match j with
      | 0 =>
        obtain rfl := Option.some.inj h1
        obtain rfl := Option.some.inj h2
        exact hl.2 i.toNat _ _ hq (List.getElem?_eq_getElem hlt)
      | j + 1 => simp at h1
theorem AO.stepJ {l : List Oper} {n : Nat} {fs : Foot} {R : (Nat → AV) → (Nat → Option Blkd) → Foot → Prop} {v : AV} (hgd : o.guard = none) (hJ : J P o n t h ⟨v, [], []⟩) (H : AO P ops l (n + 8) (putd o.dst v t) h (fs ++ [([], [])]) R) : AO P ops (o :: l) n t h fs R :=
  ⟨_, JG.plain hgd hJ, H.out⟩
end
def wordM (k : Nat) : List UInt8 := (kwords[k]?).getD []
theorem word_at (k : Nat) (h : k ≤ 14) : kwords[k]? = some (wordM k) := by
  unfold wordM
  rw [List.getElem?_eq_getElem (show k < kwords.length by have : kwords.length = 15 := rfl; omega)]
  rfl
set_option maxRecDepth 100000 in
set_option maxHeartbeats 800000 in
theorem word_told (k : Nat) (h : k ≤ 14) : Told Tryz.prog 147 [.c (.v (.int .i64 (k : Int)))] (.c (.v (.string (str (wordM k))))) := by
  obtain ⟨L, hL⟩ : ∃ L, L = kwords.map fun l => PV.v (.string (str l)) := ⟨_, rfl⟩
  have hg : glob Tryz.prog 0 = some L := by rw [hL]; kernel_rfl
  have hLl : L.length = 15 := by rw [hL]; rfl
  have hLt : L.take 15 = L := by rw [← hLl, List.take_length]
  have hx := word_at k h
  generalize wordM k = w at hx ⊢
  have hLx : (L.map AV.c)[k]? = some (.c (.v (.string (str w)))) := by rw [hL, List.getElem?_map, List.getElem?_map, hx]; rfl
  have hLy : L[k]? = some (.v (.string (str w))) := by rw [hL, List.getElem?_map, hx]; rfl
  have e1 : decide ((k : Int) < 0) = false := by simp
  have e2 : decide ((k : Int) ≥ 15) = false := by simp; omega
  refine VC.told ent_147 Tryz.func147 rfl Tryz.ntmps147 (by simp) (by first | rfl | simp [AV.pureB, AV.pureL, pureL_c, pures]) (by first | rfl | simp [AV.pureB, AV.pureL, pureL_c, pures]) fun hb => ?_
  clear hb
  refine walkBF (And.intro e1 (And.intro e2 (And.intro hg (And.intro hLl (And.intro hLt (And.intro hLx hLy)))))) ?_
  refine AO.stepJ rfl (J_indexG _ _ _ _ _ L (.v (.string (str w))) _ (k : Int) _ _ rfl hg (by trivial) rfl tyA_264 rfl rfl tyA_9 rfl (by omega) (by omega) (by simpa using hLy)) ?_
  refine walkG ?_
  refine ⟨by first | exact .inr rfl | exact .inl rfl, ?_⟩; rw [Tryz.results147]; simp only [resOk, resV, go_sem, Int.reduceBEq, Int.reduceLE, Int.reduceLT, Int.reduceNeg, Nat.reduceAdd, Nat.reduceEqDiff, Nat.reduceLT, Nat.reduceLeDiff, Nat.reduceMul, Nat.reduceSub, reduceCtorEq, ↓reduceIte]
  exact .c _
theorem moreS_c (l : List UInt8) : moreS ⟨l.toArray⟩ = bA l := by simp [moreS, bA]
theorem bsz_c (l : List UInt8) : (⟨l.toArray⟩ : ByteArray).size = l.length := by simp [ByteArray.size]
theorem zero8_c : zU8 Tryz.prog 5 = True := eq_true (by unfold zU8; kernel_rfl)
/-! The former: its block, the marks of what was met, and the bytes. -/
def blP (b : Bool) : List PV := [.v (.bool b)]
def fB (ns : List NT) (r : Int) (m n : Nat) : Blkd := ⟨false, 159, 4, [[.c (.sl 10 (ns.map NT.cells)), .c (.v (.int .i64 r)), .row 1000001 m, .row 1000002 n]]⟩
def mB (M : List Bool) : Blkd := ⟨true, 4, 1, rA blP M⟩
set_option maxRecDepth 100000 in
set_option maxHeartbeats 800000 in
theorem fput_told (ns : List NT) (r : Int) (M : List Bool) (l s : List UInt8) (hl : l.length ≤ 1000000000) (hs : s.length ≤ 1000000000) :
    ToldM Tryz.prog 193 [.ref 1000000 1 0 0, .c (.v (.string (str s)))] [fB ns r M.length l.length, mB M, bB l] [some (fB ns r M.length (l ++ s).length), some (mB M), some (bB (l ++ s))] (.tup []) := by
  unfold fB mB bB str
  refine VC.toldM ent_193 [] Tryz.func193 rfl Tryz.ntmps193 (by simp) (by simp only [ bA_len, bA_sc, rA_len, rA_sc, ScM, zOk, inL, eq_self, used_is, sc_any, sc_c, sc_pp, sc_ref, sc_row, sc_agg, sc_tup, sc_fn, ScL, some_imp, List.forall_mem_map, Nat.le_refl, go_sem, simprocAttr]) (by simp only [ bA_len, bA_sc, rA_len, rA_sc, ScM, zOk, inL, eq_self, used_is, sc_any, sc_c, sc_pp, sc_ref, sc_row, sc_agg, sc_tup, sc_fn, ScL, some_imp, List.forall_mem_map, Nat.le_refl, go_sem, simprocAttr]) (by simp only [ bA_len, bA_sc, rA_len, rA_sc, ScM, zOk, inL, eq_self, used_is, sc_any, sc_c, sc_pp, sc_ref, sc_row, sc_agg, sc_tup, sc_fn, ScL, some_imp, List.forall_mem_map, Nat.le_refl, go_sem, simprocAttr]) (by simp only [ bA_len, bA_sc, rA_len, rA_sc, ScM, zOk, inL, eq_self, used_is, sc_any, sc_c, sc_pp, sc_ref, sc_row, sc_agg, sc_tup, sc_fn, ScL, some_imp, List.forall_mem_map, Nat.le_refl, go_sem, simprocAttr]) (by simp) fun hb hbL => ?_
  clear hb hbL
  have hsz := bsz_c s
  have hms := moreS_c s
  refine walkGF (And.intro @bA_len (And.intro @rA_len (And.intro @zero8_c (And.intro hsz hms)))) ?_
  refine ⟨by first | exact .inr rfl | exact .inl rfl, ?_⟩; rw [Tryz.results193]; simp only [bA_ren, bA_len, rA_len, rA_ren, bA_app, List.length_append, resOk, resV, go_sem, Int.reduceBEq, Int.reduceLE, Int.reduceLT, Int.reduceNeg, Nat.reduceAdd, Nat.reduceEqDiff, Nat.reduceLT, Nat.reduceLeDiff, Nat.reduceMul, Nat.reduceSub, reduceCtorEq, ↓reduceIte]
set_option maxRecDepth 100000 in
set_option maxHeartbeats 800000 in
theorem fquote_told (ns : List NT) (r : Int) (M : List Bool) (l s : List UInt8) (hl : l.length ≤ 1000000000) (hs : s.length ≤ 1000000000) :
    ToldM Tryz.prog 191 [.ref 1000000 1 0 0, .c (.v (.string (str s)))] [fB ns r M.length l.length, mB M, bB l] [some (fB ns r M.length (l ++ mQuote s).length), some (mB M), some (bB (l ++ mQuote s))] (.tup []) := by
  have hQ := quote_told l s hl hs
  obtain ⟨q, hq⟩ : ∃ q, q = l ++ mQuote s := ⟨_, rfl⟩
  rw [← hq] at hQ ⊢
  unfold fB mB bB at *
  refine VC.toldM ent_191 [] Tryz.func191 rfl Tryz.ntmps191 (by simp) (by simp only [ bA_len, bA_sc, rA_len, rA_sc, ScM, zOk, inL, eq_self, used_is, sc_any, sc_c, sc_pp, sc_ref, sc_row, sc_agg, sc_tup, sc_fn, ScL, some_imp, List.forall_mem_map, Nat.le_refl, go_sem, simprocAttr]) (by simp only [ bA_len, bA_sc, rA_len, rA_sc, ScM, zOk, inL, eq_self, used_is, sc_any, sc_c, sc_pp, sc_ref, sc_row, sc_agg, sc_tup, sc_fn, ScL, some_imp, List.forall_mem_map, Nat.le_refl, go_sem, simprocAttr]) (by simp only [ bA_len, bA_sc, rA_len, rA_sc, ScM, zOk, inL, eq_self, used_is, sc_any, sc_c, sc_pp, sc_ref, sc_row, sc_agg, sc_tup, sc_fn, ScL, some_imp, List.forall_mem_map, Nat.le_refl, go_sem, simprocAttr]) (by simp only [ bA_len, bA_sc, rA_len, rA_sc, ScM, zOk, inL, eq_self, used_is, sc_any, sc_c, sc_pp, sc_ref, sc_row, sc_agg, sc_tup, sc_fn, ScL, some_imp, List.forall_mem_map, Nat.le_refl, go_sem, simprocAttr]) (by simp) fun hb hbL => ?_
  clear hb hbL
  refine walkGF (And.intro @bA_len @rA_len) ?_
  ((refine AO.step fun K hK => ?_; simp only [go_sem, Int.reduceBEq, Int.reduceLE, Int.reduceLT, Int.reduceNeg, Nat.reduceAdd, Nat.reduceEqDiff, Nat.reduceLT, Nat.reduceLeDiff, Nat.reduceMul, Nat.reduceSub, reduceCtorEq, ↓reduceIte, bA_len, bA_ren]; (first | refine gsel_go ?_ | skip)); refine .inr (.inr (.inl ⟨?vy1, [1000002], ?va1, ?vl1, ?vm1, ?cond1, ?cont1⟩)); (case cond1 => ((repeat' apply And.intro) <;> (try ((with_reducible show ToldM _ _ _ _ _ _); exact hQ))); (all_goals first | trivial | (simp only [bA_len, bA_ren, go_sem, simprocAttr]; done) | (simp; done) | rfl)); (first | refine hK _ _ _ ?_ | (simp only [bA_len, bA_ren, go_sem, simprocAttr]; first | refine hK _ _ _ ?_ | refine ⟨rfl, hK _ _ _ ?_⟩)); clear hK K)
  refine walkGF (And.intro @bA_len (And.intro @bA_ren @rA_len)) ?_
  refine ⟨by first | exact .inr rfl | exact .inl rfl, ?_⟩; rw [Tryz.results191]; simp only [bA_ren, bA_len, rA_len, rA_ren, resOk, resV, go_sem, Int.reduceBEq, Int.reduceLE, Int.reduceLT, Int.reduceNeg, Nat.reduceAdd, Nat.reduceEqDiff, Nat.reduceLT, Nat.reduceLeDiff, Nat.reduceMul, Nat.reduceSub, reduceCtorEq, ↓reduceIte]
def commaM (i : Nat) : List UInt8 := if 0 < i then [44] else []
set_option maxRecDepth 100000 in
set_option maxHeartbeats 800000 in
theorem fcomma_told (ns : List NT) (r : Int) (M : List Bool) (l : List UInt8) (hl : l.length ≤ 1000000000) (i : Nat) :
    ToldM Tryz.prog 194 [.ref 1000000 1 0 0, .c (.v (.int .i64 (i : Int)))] [fB ns r M.length l.length, mB M, bB l] [some (fB ns r M.length (l ++ commaM i).length), some (mB M), some (bB (l ++ commaM i))] (.tup []) := by
  have hP := fput_told ns r M l [44] hl (by decide)
  unfold commaM
  by_cases h : 0 < i
  · rw [if_pos h]
    have e : decide ((i : Int) > 0) = true := by simpa using h
    generalize l ++ [44] = q at hP ⊢
    unfold fB mB bB str at *
    refine VC.toldM ent_194 [] Tryz.func194 rfl Tryz.ntmps194 (by simp) (by simp only [ bA_len, bA_sc, rA_len, rA_sc, ScM, zOk, inL, eq_self, used_is, sc_any, sc_c, sc_pp, sc_ref, sc_row, sc_agg, sc_tup, sc_fn, ScL, some_imp, List.forall_mem_map, Nat.le_refl, go_sem, simprocAttr]) (by simp only [ bA_len, bA_sc, rA_len, rA_sc, ScM, zOk, inL, eq_self, used_is, sc_any, sc_c, sc_pp, sc_ref, sc_row, sc_agg, sc_tup, sc_fn, ScL, some_imp, List.forall_mem_map, Nat.le_refl, go_sem, simprocAttr]) (by simp only [ bA_len, bA_sc, rA_len, rA_sc, ScM, zOk, inL, eq_self, used_is, sc_any, sc_c, sc_pp, sc_ref, sc_row, sc_agg, sc_tup, sc_fn, ScL, some_imp, List.forall_mem_map, Nat.le_refl, go_sem, simprocAttr]) (by simp only [ bA_len, bA_sc, rA_len, rA_sc, ScM, zOk, inL, eq_self, used_is, sc_any, sc_c, sc_pp, sc_ref, sc_row, sc_agg, sc_tup, sc_fn, ScL, some_imp, List.forall_mem_map, Nat.le_refl, go_sem, simprocAttr]) (by simp) fun hb hbL => ?_
    clear hb hbL
    refine walkBF (And.intro @bA_len (And.intro @rA_len e)) ?_
    ((refine AO.step fun K hK => ?_; simp only [go_sem, Int.reduceBEq, Int.reduceLE, Int.reduceLT, Int.reduceNeg, Nat.reduceAdd, Nat.reduceEqDiff, Nat.reduceLT, Nat.reduceLeDiff, Nat.reduceMul, Nat.reduceSub, reduceCtorEq, ↓reduceIte, bA_len, bA_ren, rA_len, rA_ren]; (first | refine gsel_go ?_ | skip)); refine .inr (.inr (.inl ⟨?vy2, [1000000, 1000001, 1000002], ?va2, ?vl2, ?vm2, ?cond2, ?cont2⟩)); (case cond2 => ((repeat' apply And.intro) <;> (try ((with_reducible show ToldM _ _ _ _ _ _); exact hP))); (all_goals first | trivial | (simp only [bA_len, bA_ren, rA_len, rA_ren, go_sem, simprocAttr]; done) | (simp; done) | rfl)); (first | refine hK _ _ _ ?_ | (simp only [bA_len, bA_ren, rA_len, rA_ren, go_sem, simprocAttr]; first | refine hK _ _ _ ?_ | refine ⟨rfl, hK _ _ _ ?_⟩)); clear hK K)
    refine walkGF (And.intro @bA_len (And.intro @bA_ren @rA_len)) ?_
    refine ⟨by first | exact .inr rfl | exact .inl rfl, ?_⟩; rw [Tryz.results194]; simp only [bA_ren, bA_len, rA_len, rA_ren, resOk, resV, go_sem, Int.reduceBEq, Int.reduceLE, Int.reduceLT, Int.reduceNeg, Nat.reduceAdd, Nat.reduceEqDiff, Nat.reduceLT, Nat.reduceLeDiff, Nat.reduceMul, Nat.reduceSub, reduceCtorEq, ↓reduceIte]
  · rw [if_neg h, List.append_nil]
    have e : decide ((i : Int) > 0) = false := by simpa using h
    unfold fB mB bB
    refine VC.toldM ent_194 [] Tryz.func194 rfl Tryz.ntmps194 (by simp) (by simp only [ bA_len, bA_sc, rA_len, rA_sc, ScM, zOk, inL, eq_self, used_is, sc_any, sc_c, sc_pp, sc_ref, sc_row, sc_agg, sc_tup, sc_fn, ScL, some_imp, List.forall_mem_map, Nat.le_refl, go_sem, simprocAttr]) (by simp only [ bA_len, bA_sc, rA_len, rA_sc, ScM, zOk, inL, eq_self, used_is, sc_any, sc_c, sc_pp, sc_ref, sc_row, sc_agg, sc_tup, sc_fn, ScL, some_imp, List.forall_mem_map, Nat.le_refl, go_sem, simprocAttr]) (by simp only [ bA_len, bA_sc, rA_len, rA_sc, ScM, zOk, inL, eq_self, used_is, sc_any, sc_c, sc_pp, sc_ref, sc_row, sc_agg, sc_tup, sc_fn, ScL, some_imp, List.forall_mem_map, Nat.le_refl, go_sem, simprocAttr]) (by simp only [ bA_len, bA_sc, rA_len, rA_sc, ScM, zOk, inL, eq_self, used_is, sc_any, sc_c, sc_pp, sc_ref, sc_row, sc_agg, sc_tup, sc_fn, ScL, some_imp, List.forall_mem_map, Nat.le_refl, go_sem, simprocAttr]) (by simp) fun hb hbL => ?_
    clear hb hbL
    refine walkBF (And.intro @bA_len (And.intro @rA_len e)) ?_
    refine ⟨by first | exact .inr rfl | exact .inl rfl, ?_⟩; rw [Tryz.results194]; simp only [bA_ren, bA_len, rA_len, rA_ren, resOk, resV, go_sem, Int.reduceBEq, Int.reduceLE, Int.reduceLT, Int.reduceNeg, Nat.reduceAdd, Nat.reduceEqDiff, Nat.reduceLT, Nat.reduceLeDiff, Nat.reduceMul, Nat.reduceSub, reduceCtorEq, ↓reduceIte]
end
end
end Go.Proofs.YtkaogeogjjcdhaaGreatDoor
