/- Texts that lead to the law DfltFields, joined. -/
import Derived.Test.YtllnlmchjljhlaaGreatDoorPkDfltFieldsB
import Derived.Test.YtllnlmchjljhlaaGreatDoorPkDfltFieldsA
import Derived.Test.YtllnlmchjljhlaaGreatDoorPkDfltFieldsXAbB
import Derived.Test.YtllnlmchjljhlaaGreatDoorShi
namespace Go.Proofs.YtllnlmchjljhlaaGreatDoor
open Go.RowKit
set_option linter.unusedVariables false
set_option linter.unusedSimpArgs false
section
attribute [local go_sem] opx opE ev okx gcond bnd okO AV.get AV.okb cAV upd_at putd_some putd_none wrs_nil wrs_cons look_nil look_cons st argT_at bpick_and bpick_or bpick_true bpick_false binV binI binS binVOk binOk isShift binSOk unV unVOk loadV loadP cellsA zeroA Blkd.len setE grown moreA moreR moreOk eqRes pv fillA fillE putSeg AV.cellish AV.pureL AV.pureB lentL_is ex_some AV.ren AV.renL renL_c Blkd.ren rho wrM renN lentOk rhoE keepM endOk tyA_2 tyA_3 tyA_4 tyA_5 tyA_6 tyA_7 tyA_8 tyA_9 tyA_10 tyA_11 tyA_12 tyA_13 tyA_14 tyA_15 tyA_16 tyA_17 tyA_18 tyA_19 tyA_21 tyA_22 tyA_23 tyA_24 tyA_29 tyA_30 tyA_31 tyA_32 tyA_33 tyA_34 tyA_35 tyA_36 tyA_37 tyA_38 tyA_39 tyA_40 tyA_41 tyA_42 tyA_43 tyA_49 tyA_85 tyA_89 tyA_99 tyA_100 tyA_101 tyA_105 tyA_106 tyA_107 tyA_108 tyA_109 tyA_111 tyA_112 tyA_113 tyA_114 tyA_123 tyA_126 tyA_127 tyA_128 tyA_129 tyA_130 tyA_153 tyA_163 tyA_164 tyA_165 tyA_179 tyA_185 tyA_191 tyA_192 tyA_193 tyA_194 tyA_195 tyA_196 tyA_209 tyA_213 tyA_214 tyA_215 tyA_241 tyA_248 tyA_274 tyA_275 tyA_276 tyA_292 tyA_294 tyA_302 tyA_307 tyA_315 tyA_319 tyA_321 tyA_324 tyA_325 tyA_326 tyA_327 tyA_328 tyA_329 tyA_330 tyA_332 tyA_333 Option.map_some Option.map_none Option.getD_some Option.getD_none Option.bind_some Option.bind_none List.getElem?_cons_zero List.getElem?_cons_succ List.getElem?_nil List.getElem?_toArray List.length_cons List.length_nil List.length_map List.forall_mem_map List.map_cons List.map_nil List.drop_zero List.drop_succ_cons List.drop_nil List.take_zero List.take_succ_cons List.take_nil List.mem_cons List.not_mem_nil or_false forall_eq_or_imp forall_eq List.set_cons_zero List.set_cons_succ List.cons_append List.nil_append List.append_nil List.foldl_cons List.foldl_nil List.replicate_succ List.replicate_zero List.all_cons List.all_nil if_true if_false Bool.false_eq_true ne_eq not_false_eq_true not_true_eq_false true_and and_true and_self true_implies imp_self implies_true forall_const beq_self_eq_true Bool.and_true Bool.true_and Bool.and_false Bool.false_and Bool.or_true Bool.true_or Bool.or_false Bool.false_or Bool.not_true Bool.not_false Bool.not_eq_eq_eq_not intKindOf Value.oneCell' Int.toNat_natCast beq_true beq_false Bool.not_eq_true false_implies false_or true_or or_true Nat.zero_add Nat.add_zero decide_true decide_false Int.cast_ofNat_Int Int.toNat_zero Int.toNat_one eq_self

def JT.kids : JT → List JT
  | .mk _ _ _ _ xs => xs
mutual
theorem sm_le {N M : Nat} (h : N ≤ M) : ∀ t : JT, t.sm N → t.sm M
  | .mk k n s ks xs => fun ⟨h1, h2, h3, h4, h5⟩ => ⟨Nat.le_trans h1 h, Nat.le_trans h2 h, fun y hy => Nat.le_trans (h3 y hy) h, Nat.le_trans h4 h, smL_le h xs h5⟩
theorem smL_le {N M : Nat} (h : N ≤ M) : ∀ xs : List JT, JT.smL N xs → JT.smL M xs
  | [] => fun _ => trivial
  | x :: xs => fun hx => ⟨sm_le h x hx.1, smL_le h xs hx.2⟩
end
mutual
def jright (d : Nat) : JT → Bool
  | .mk k n s ks xs => jbare (.mk k n s ks xs) && jkeyed (.mk k n s ks xs) && !(decide (32 ≤ d) && (decide (k = 5) || decide (k = 6))) && jrights (d + 1) xs
def jrights (d : Nat) : List JT → Bool
  | [] => true
  | x :: xs => jright d x && jrights d xs
end
theorem jrights_any (d : Nat) : ∀ xs : List JT, (!xs.any fun x => !jright d x) = jrights d xs
  | [] => rfl
  | x :: xs => by rw [jrights, ← jrights_any d xs]; simp
set_option maxRecDepth 100000 in
set_option maxHeartbeats 400000 in
theorem right1_told {x : JT} {z : Int} {b : Bool} (h0 : 0 ≤ z) (h1 : z ≤ 32) (h : Told Tryz.prog 99 [x.av, .c (.v (.int .i64 (z + 1)))] (.c (.v (.bool b)))) : Told Tryz.prog 176 [x.av, .pp [.v (.int .i64 z)]] (.c (.v (.bool (!b)))) := by
  have hw : IntKind.i64.wrap (z + 1) = z + 1 := wrap64_id (by omega) (by omega)
  refine VC.told ent_176 Tryz.func176 rfl Tryz.ntmps176 (by simp) (by simp [AV.pureB, AV.pureL, JT.av, pureL_c]) rfl fun hb => ?_
  clear hb
  refine walkGF (And.intro @JT.av_eq (And.intro @len_cells (And.intro @take_cells (And.intro @take_cellsC hw)))) ?_
  refine walkCF (And.intro @JT.av_eq (And.intro @len_cells (And.intro @take_cells (And.intro @take_cellsC (And.intro hw @pureL_c))))) (h) ?_
  refine walkG ?_
  refine ⟨by first | exact .inr rfl | exact .inl rfl, ?_⟩; rw [Tryz.results176]; simp only [resOk, resV, go_sem, simprocAttr]
  exact .c _
theorem bare_kids {k n : Int} {s : List UInt8} {ks : List (List UInt8)} {xs : List JT} (h : jbare (.mk k n s ks xs) = true) (h5 : k ≠ 5) (h6 : k ≠ 6) : xs = [] := by
  rw [jbare] at h
  split at h
  · simp at h; exact h.2
  · split at h
    · simp at h; exact h.2
    · split at h
      · simp at h; exact h.2
      · split at h
        · simp at h; exact h.1.2
        · rw [if_neg (by simp [h5, h6])] at h
          exact absurd h (by simp)
set_option maxRecDepth 100000 in
set_option maxHeartbeats 800000 in
theorem right_told : ∀ (m : Nat) (t : JT), SizeOf.sizeOf t ≤ m → t.sm 4294967296 → ∀ (d : Nat) (z : Int), d ≤ 32 → z = (d : Int) → Told Tryz.prog 99 [t.av, .c (.v (.int .i64 z))] (.c (.v (.bool (jright d t)))) := by
  intro m
  induction m with
  | zero => intro t ht; cases t; simp at ht
  | succ m ih =>
  intro t ht hsm d z hd hz
  have hB := jbare_told t (sm_le (by omega) t hsm)
  have hKy := jkeyed_told t hsm
  have hx : ∀ x ∈ t.kids, Told Tryz.prog 99 [x.av, .c (.v (.int .i64 (z + 1)))] (.c (.v (.bool (jright (d + 1) x)))) ∨ 32 ≤ d := by
    intro x hx
    by_cases h32 : 32 ≤ d
    · exact .inr h32
    · cases t with
      | mk k n s ks xs => exact .inl (ih x (by have := List.sizeOf_lt_of_mem (show x ∈ xs from hx); simp at ht; omega) (smL_mem hsm.2.2.2.2 x hx) (d + 1) (z + 1) (by omega) (by omega))
  clear ih ht hsm
  obtain ⟨V, hV⟩ : ∃ V, V = jright d t := ⟨_, rfl⟩
  rw [← hV]
  cases t with
  | mk k n s ks xs =>
  rw [jright] at hV
  replace hx : ∀ x ∈ xs, _ := hx
  obtain ⟨b1, hb1⟩ : ∃ b1, b1 = jbare (.mk k n s ks xs) := ⟨_, rfl⟩
  obtain ⟨b2, hb2⟩ : ∃ b2, b2 = jkeyed (.mk k n s ks xs) := ⟨_, rfl⟩
  rw [← hb1] at hB hV
  rw [← hb2] at hKy hV
  simp only [JT.av, cells_mk, List.map_cons, List.map_nil] at hB hKy
  refine VC.told ent_99 Tryz.func99 rfl Tryz.ntmps99 (by simp) rfl rfl fun hb => ?_
  clear hb
  refine walkGF (And.intro @JT.av_eq @cells_mk) ?_
  refine walkCF (And.intro @JT.av_eq @cells_mk) (hB) ?_
  refine walkGF (And.intro @JT.av_eq @cells_mk) ?_
  refine walkDF (And.intro @JT.av_eq @cells_mk) (hKy) ?_
  refine walkGF (And.intro @JT.av_eq @cells_mk) ?_
  refine VC.cond (by rfl) (by trivial) (fun hc => ?_) (fun hc => ?_)
  · have hVf : V = false := by
      rw [hV]
      cases b1 <;> cases b2 <;> simp_all
      omega
    rw [hVf]
    refine walkG ?_
    refine ⟨by first | exact .inr rfl | exact .inl rfl, ?_⟩; rw [Tryz.results99]; simp only [resOk, resV, go_sem, simprocAttr]
    exact .c _
  · have hb12 : b1 = true ∧ b2 = true ∧ (32 ≤ d → k ≠ 5 ∧ k ≠ 6) := by
      cases b1 <;> cases b2 <;> simp_all
      intro h32
      exact hc (by omega)
    obtain ⟨rfl, rfl, hk56⟩ := hb12
    have hx2 : ∀ x ∈ xs, Told Tryz.prog 99 [x.av, .c (.v (.int .i64 (z + 1)))] (.c (.v (.bool (jright (d + 1) x)))) := by
      intro x hxm
      rcases hx x hxm with h | h
      · exact h
      · obtain ⟨h5, h6⟩ := hk56 h
        rw [bare_kids hb1.symm h5 h6] at hxm
        simp at hxm
    have hVt : V = jrights (d + 1) xs := by
      rw [hV]
      by_cases h32 : 32 ≤ d
      · obtain ⟨h5, h6⟩ := hk56 h32
        simp [h5, h6]
      · simp [h32]
    have hF := cnfJ_told (g := 176) (fs := []) (cs := [.pp [.v (.int .i64 z)]]) rfl rfl xs (fun x => !jright (d + 1) x) fun x hxm => right1_told (by omega) (by omega) (hx2 x hxm)
    refine VC.skip ?_; refine SQ.normal ?_
    refine VC.frz [8] [(2, .ref 0 1 0 0), (3, .pp [.v (.int .i64 z)])] [(0, ⟨false, 36, 5, [(JT.mk k n s ks xs).cells.map .c]⟩)] 400 ?_ ?_
    · simp only [cells_mk, WeakF, used_is, sc_any, sc_c, sc_pp, sc_ref, sc_row, sc_agg, sc_fn, ScL, some_imp, List.forall_mem_map, go_sem, Int.reduceBEq, Int.reduceLE, Int.reduceLT, Int.reduceNeg, Nat.reduceAdd, Nat.reduceEqDiff, Nat.reduceLT, Nat.reduceLeDiff, Nat.reduceMul, Nat.reduceSub, reduceCtorEq, ↓reduceIte]
      exact ⟨⟨.same _, .ref (es := [.v (.int .i64 z)]) (by simp) rfl rfl rfl rfl⟩, .same _⟩
    refine walkGF (@cells_mk) ?_
    refine walkCF (@cells_mk) (hF) ?_
    refine walkG ?_
    refine ⟨by first | exact .inr rfl | exact .inl rfl, ?_⟩; rw [Tryz.results99]; simp only [resOk, resV, go_sem, simprocAttr]
    rw [hVt, ← jrights_any]
    exact .c _
def jR (t : JT) : Bool := jright 0 t
set_option maxRecDepth 100000 in
set_option maxHeartbeats 400000 in
theorem jRight_told (t : JT) (ht : t.sm 4294967296) : Told Tryz.prog 65 [t.av] (.c (.v (.bool (jR t)))) := by
  have h := right_told _ t (Nat.le_refl _) ht 0 0 (by omega) rfl
  refine VC.told ent_65 Tryz.func65 rfl Tryz.ntmps65 (by simp) (by simp [AV.pureB, AV.pureL, JT.av, pureL_c]) rfl fun hb => ?_
  clear hb
  refine walkGF (And.intro @JT.av_eq (And.intro @len_cells (And.intro @take_cells @take_cellsC))) ?_
  refine walkCF (And.intro @JT.av_eq (And.intro @len_cells (And.intro @take_cells (And.intro @take_cellsC @pureL_c)))) (h) ?_
  refine walkG ?_
  refine ⟨by first | exact .inr rfl | exact .inl rfl, ?_⟩; rw [Tryz.results65]; simp only [resOk, resV, go_sem, simprocAttr]
  exact .c _

theorem nodup_of {ks : List (List UInt8)} (h : (Lib.compact (srt ks)).length = ks.length) : ks.Nodup := by
  have hperm : (srt ks).Perm ks := List.mergeSort_perm ks _
  have hlen := srt_len ks
  have hsort : (srt ks).Pairwise fun a b => a ≤ b := by
    have := List.pairwise_mergeSort (le := fun x y : List UInt8 => decide (x ≤ y)) (fun a b c h1 h2 => by simp only [decide_eq_true_eq] at h1 h2 ⊢; exact List.le_trans h1 h2) (fun a b => by simp only [Bool.or_eq_true, decide_eq_true_eq]; exact List.le_total a b) ks
    exact this.imp fun h => by simpa using h
  generalize srt ks = L at h hperm hlen hsort
  refine hperm.nodup_iff.1 ?_
  have hk : ∀ j, j < L.length → Lib.keeps L.toArray j = true := by
    rw [← hlen] at h
    unfold Lib.compact Lib.compactUpTo at h
    rw [List.length_map] at h
    have h2 : ((List.range L.length).filter (Lib.keeps L.toArray)).length = (List.range L.length).length := by rw [h, List.length_range]
    intro j hj
    exact List.length_filter_eq_length_iff.1 h2 j (List.mem_range.2 hj)
  rw [List.nodup_iff_pairwise_ne, List.pairwise_iff_getElem]
  intro i j hi hj hij heq
  have h1 := List.pairwise_iff_getElem.1 hsort
  have hk1 := hk (i + 1) (by omega)
  have hle1 := h1 i (i + 1) hi (by omega) (by omega)
  have hle2 : L[i + 1]'(by omega) ≤ L[j] := by
    rcases Nat.lt_or_ge (i + 1) j with h2 | h2
    · exact h1 (i + 1) j (by omega) hj h2
    · have : i + 1 = j := by omega
      subst this
      exact List.le_refl _
  rw [← heq] at hle2
  have he := List.le_antisymm hle1 hle2
  unfold Lib.keeps at hk1
  have g1 : L.toArray[i + 1]! = L[i + 1]'(by omega) := by simp [show i + 1 < L.length by omega]
  have g2 : L.toArray[i + 1 - 1]! = L[i] := by simp [hi]
  rw [g1, g2, he] at hk1
  simp at hk1
theorem compact_nodup {ks : List (List UInt8)} (h : ks.Nodup) : (Lib.compact (srt ks)).length = ks.length := by
  have hperm : (srt ks).Perm ks := List.mergeSort_perm ks _
  have hlen := srt_len ks
  have hnd := hperm.nodup_iff.2 h
  generalize srt ks = L at hperm hlen hnd ⊢
  have hk : ∀ j, j < L.length → Lib.keeps L.toArray j = true := by
    intro j hj
    unfold Lib.keeps
    by_cases h0 : j = 0
    · simp [h0]
    · have g1 : L.toArray[j]! = L[j] := by simp [hj]
      have g2 : L.toArray[j - 1]! = L[j - 1]'(by omega) := by simp [show j - 1 < L.length by omega]
      rw [g1, g2]
      have := List.pairwise_iff_getElem.1 (List.nodup_iff_pairwise_ne.1 hnd) (j - 1) j (by omega) hj (by omega)
      exact decide_eq_true (.inr fun e => this e.symm)
  unfold Lib.compact Lib.compactUpTo
  rw [List.length_map, List.length_filter_eq_length_iff.2 fun j hj => hk j (List.mem_range.1 hj), List.length_range, hlen]

def rfail : JT → Bool
  | .mk k n s ks xs => decide (k < 1) || decide (k > 6) || (decide (k ≠ 2) && decide (k ≠ 3) && decide (n ≠ 0)) || (decide (k = 2) && decide (n ≠ 0) && decide (n ≠ 1)) || (decide (k ≠ 4) && !s.isEmpty) || !isRight s
      || (decide (k < 5) && !xs.isEmpty) || (decide (k ≠ 6) && !ks.isEmpty) || (decide (k = 6) && decide (ks.length ≠ xs.length))
mutual
def rshape : JT → Bool
  | .mk k n s ks xs => !rfail (.mk k n s ks xs) && (ks.all isRight && decide ks.Nodup) && rshapes xs
def rshapes : List JT → Bool
  | [] => true
  | x :: xs => rshape x && rshapes xs
end
theorem right_empty : isRight [] = true := by decide +kernel
theorem deeps_le (m : Nat) : ∀ (xs : List JT) (n : Nat), tdeeps n xs ≤ m ↔ n ≤ m ∧ ∀ x ∈ xs, 1 + tdeep x ≤ m
  | [], n => by simp [tdeeps]
  | x :: xs, n => by
    rw [tdeeps, deeps_le m xs]
    simp only [List.mem_cons, forall_eq_or_imp]
    constructor
    · rintro ⟨h1, h2⟩; exact ⟨by omega, by omega, h2⟩
    · rintro ⟨h1, h2, h3⟩; exact ⟨by omega, h3⟩
theorem keyed_iff {k n : Int} {s : List UInt8} {ks : List (List UInt8)} {xs : List JT} : jkeyed (.mk k n s ks xs) = ((if k ≠ 6 then ks.isEmpty else decide (ks.length = xs.length)) && (ks.all isRight && decide ks.Nodup)) := by
  rw [jkeyed]
  by_cases h6 : k = 6
  · rw [if_neg (by simp [h6]), if_neg (by simp [h6])]
    have : decide ((Lib.compact (srt ks)).length = ks.length) = decide ks.Nodup := by
      rw [Bool.eq_iff_iff]
      simp only [decide_eq_true_eq]
      exact ⟨nodup_of, compact_nodup⟩
    rw [this, Bool.and_comm (ks.all isRight)]
  · rw [if_pos h6, if_pos h6]
    cases ks with
    | nil => simp
    | cons y ks => simp
theorem bare_iff (k n : Int) (s : List UInt8) (ks : List (List UInt8)) (xs : List JT) : (jbare (.mk k n s ks xs) && (if k ≠ 6 then ks.isEmpty else decide (ks.length = xs.length))) = !rfail (.mk k n s ks xs) := by
  rw [Bool.eq_iff_iff]
  unfold rfail
  rw [jbare]
  have hr := right_empty
  by_cases h1 : k = 1
  · subst h1; cases s <;> cases xs <;> cases ks <;> simp [hr]
  by_cases h2 : k = 2
  · subst h2; cases s <;> cases xs <;> cases ks <;> simp [hr]
    all_goals omega
  by_cases h3 : k = 3
  · subst h3; cases s <;> cases xs <;> cases ks <;> simp [hr]
  by_cases h4 : k = 4
  · subst h4; cases s <;> cases xs <;> cases ks <;> simp [hr]
  by_cases h5 : k = 5
  · subst h5; cases s <;> cases xs <;> cases ks <;> simp [hr]
  by_cases h6 : k = 6
  · subst h6; cases s <;> cases xs <;> cases ks <;> simp [hr]
  · have : k < 1 ∨ k > 6 := by omega
    simp [h1, h2, h3, h4, h5, h6, this]
    omega
mutual
theorem right_shape (d : Nat) (hd : d ≤ 32) : ∀ t : JT, jright d t = (decide (d + tdeep t ≤ 32) && rshape t)
  | .mk k n s ks xs => by
    rw [jright, rshape, keyed_iff, ← bare_iff, tdeep]
    by_cases hb : jbare (.mk k n s ks xs) = true
    · by_cases h56 : k = 5 ∨ k = 6
      · rw [if_pos h56]
        by_cases h32 : d = 32
        · subst h32
          have := (deeps_le 0 xs 1)
          have h1 : ¬ 32 + tdeeps 1 xs ≤ 32 := by
            intro h
            have := (deeps_le 0 xs 1).1 (by omega)
            omega
          rw [Bool.eq_iff_iff]
          simp [h1]
          omega
        · rw [rights_shapes (d + 1) (by omega) xs]
          have h2 : decide (d + tdeeps 1 xs ≤ 32) = (xs.all fun x => decide (d + 1 + tdeep x ≤ 32)) := by
            rw [Bool.eq_iff_iff]
            simp only [decide_eq_true_eq, List.all_eq_true]
            have := deeps_le (32 - d) xs 1
            constructor
            · intro h x hx
              have := (this.1 (by omega)).2 x hx
              omega
            · intro h
              have := this.2 ⟨by omega, fun x hx => by have := h x hx; omega⟩
              omega
          have h3 : decide (32 ≤ d) = false := by simp; omega
          rw [h2, hb, h3]
          simp only [Bool.false_and, Bool.not_false, Bool.and_true, Bool.true_and]
          generalize (xs.all fun x => decide (d + 1 + tdeep x ≤ 32)) = A
          generalize ((if k ≠ 6 then ks.isEmpty else decide (ks.length = xs.length)) && (ks.all isRight && decide ks.Nodup)) = Z
          cases A <;> cases Z <;> simp
      · rw [if_neg h56, bare_kids hb (fun h => h56 (.inl h)) (fun h => h56 (.inr h))]
        have h5 : decide (k = 5) = false := by simp; exact fun h => h56 (.inl h)
        have h6 : decide (k = 6) = false := by simp; exact fun h => h56 (.inr h)
        rw [h5, h6]
        simp [jrights, rshapes, hd, Bool.and_assoc]
    · simp [hb]
theorem rights_shapes (d : Nat) (hd : d ≤ 32) : ∀ xs : List JT, jrights d xs = ((xs.all fun x => decide (d + tdeep x ≤ 32)) && rshapes xs)
  | [] => rfl
  | x :: xs => by
    rw [jrights, rshapes, right_shape d hd x, rights_shapes d hd xs, List.all_cons]
    cases decide (d + tdeep x ≤ 32) <;> cases rshape x <;> simp
end
theorem jR_shape (t : JT) : jR t = (decide (tdeep t ≤ 32) && rshape t) := by
  unfold jR
  rw [right_shape 0 (by omega) t, Nat.zero_add]

theorem taken_next {α : Type} [DecidableEq α] {ks ls : List α} {i : Nat} {x y : α} (hx : ks[i]? = some x) (hy : ls[i]? = some y) (ht : ks.take i = ls.take i) : ks.take (i + 1) = ls.take (i + 1) ↔ x = y := by
  rw [List.take_add_one, List.take_add_one, hx, hy, ht]
  simp
set_option maxRecDepth 100000 in
set_option maxHeartbeats 400000 in
theorem sequal_told (ks ls : List (List UInt8)) : Told Tryz.prog 61 [.c (.sl 1 (ks.map sPV)), .c (.sl 1 (ls.map sPV))] (.c (.v (.bool (ks == ls)))) := by
  refine VC.told ent_61 Tryz.func61 rfl Tryz.ntmps61 (by simp) rfl rfl fun hb => ?_
  simp only [abd_c, pbd_sl, List.mem_cons, List.not_mem_nil, or_false, forall_eq_or_imp, forall_eq, List.length_map] at hb
  have h1 := hb.1.1
  have h2 := hb.2.1
  clear hb
  refine walkG ?_
  refine VC.cond (by rfl) (by trivial) (fun hc => ?_) (fun hc => ?_)
  · have hne : (ks == ls) = false := by
      rw [beq_eq_false_iff_ne]
      intro e
      subst e
      simp at hc
    refine walkG ?_
    refine ⟨.inr rfl, ?_⟩
    rw [Tryz.results61, hne]
    simp only [resOk, resV, go_sem, simprocAttr]
    exact .c _
  · have hlen : ks.length = ls.length := by
      simp at hc
      omega
    refine walkG ?_
    refine VC.loop (ι := {i : Nat // i ≤ ks.length ∧ ks.take i = ls.take i}) (fun i => [(0, .c (.sl 1 (ks.map sPV))), (1, .c (.sl 1 (ls.map sPV))), (12, .c (.v (.int .i64 ks.length))), (13, .c (.v (.int .i64 i.1)))]) (fun _ => []) 0 (fun i => ks.length - i.1) ⟨0, Nat.zero_le _, rfl⟩ ?_ ?_
    · simp only [Weak, eq_self, used_is, sc_any, sc_c, sc_pp, sc_ref, sc_row, sc_agg, sc_fn, ScL, some_imp, List.forall_mem_map, go_sem, Int.reduceBEq, Int.reduceLE, Int.reduceLT, Int.reduceNeg, Nat.reduceAdd, Nat.reduceEqDiff, Nat.reduceLT, Nat.reduceLeDiff, Nat.reduceMul, Nat.reduceSub, reduceCtorEq, ↓reduceIte]
      all_goals rfl
    rintro ⟨i, hi, ht⟩
    refine walkG ?_
    refine VC.cond (by rfl) (by trivial) (fun hc => ?_) (fun hc => ?_)
    · simp only [decide_eq_true_eq] at hc
      obtain ⟨x, hx⟩ : ∃ x, ks[i]? = some x := ⟨ks[i], List.getElem?_eq_getElem (by omega)⟩
      obtain ⟨y, hy⟩ : ∃ y, ls[i]? = some y := ⟨ls[i], List.getElem?_eq_getElem (by omega)⟩
      have hw : IntKind.i64.wrap ((i : Int) + 1) = (i : Int) + 1 := wrap64_id (by omega) (by omega)
      have htn := taken_next hx hy ht
      (repeat (first | refine pass ?_ | refine VC.region (by rfl) (by rfl) ?_ | (refine AO.step fun K hK => ?_; simp only [List.getElem?_map, hx, hy, sPV, str_toList, go_sem, Int.reduceBEq, Int.reduceLE, Int.reduceLT, Int.reduceNeg, Nat.reduceAdd, Nat.reduceEqDiff, Nat.reduceLT, Nat.reduceLeDiff, Nat.reduceMul, Nat.reduceSub, reduceCtorEq, ↓reduceIte]; (first | refine gsel_skip ?_ | refine gsel_go ?_ | skip); (first | refine hK _ _ _ ?_ | refine ⟨by first | omega | exact ⟨_, rfl, rfl⟩ | exact fun _ => ⟨_, rfl, rfl⟩ | (intro h; simp only [List.getElem?_map, hx, hy, sPV, str_toList, h, true_and]; omega) | (clear hK; intro h; simp_all <;> omega), hK _ _ _ ?_⟩); clear hK K) | refine VC.draw mixP (by rfl) (by rfl) ?_ | refine ⟨okd_of (by kernel_rfl), ?_⟩ | refine BQ.other (by decide) ?_ | refine VC.seq ?_ | refine AO.nil ?_ | refine VC.block ?_))
      refine VC.cond (by rfl) (by trivial) (fun hc2 => ?_) (fun hc2 => ?_)
      · have hne : (ks == ls) = false := by
          rw [beq_eq_false_iff_ne]
          intro e
          subst e
          rw [hx] at hy
          obtain rfl := Option.some.inj hy
          simp at hc2
        refine walkG ?_
        refine ⟨.inr rfl, ?_⟩
        rw [Tryz.results61, hne]
        simp only [resOk, resV, go_sem, simprocAttr]
        exact .c _
      · have hxy : x = y := by simpa using hc2
        refine walkGF (hw) ?_
        refine .next ⟨i + 1, by omega, htn.2 hxy⟩ ?_ (by simp only []; omega)
        simp only [Weak, eq_self, used_is, sc_any, sc_c, sc_pp, sc_ref, sc_row, sc_agg, sc_fn, ScL, some_imp, List.forall_mem_map, go_sem, Int.reduceBEq, Int.reduceLE, Int.reduceLT, Int.reduceNeg, Nat.reduceAdd, Nat.reduceEqDiff, Nat.reduceLT, Nat.reduceLeDiff, Nat.reduceMul, Nat.reduceSub, reduceCtorEq, ↓reduceIte]
        exact cI (by omega)
    · simp only [decide_eq_false_iff_not] at hc
      obtain rfl : i = ks.length := by omega
      have heq : (ks == ls) = true := by
        rw [List.take_length, hlen, List.take_length] at ht
        simp [ht]
      refine walkG ?_
      refine ⟨.inr rfl, ?_⟩
      rw [Tryz.results61, heq]
      simp only [resOk, resV, go_sem, simprocAttr]
      exact .c _
noncomputable def jeq (a b : JT) : Bool := @decide (a = b) (Classical.propDecidable _)
theorem jeq_iff (a b : JT) : jeq a b = true ↔ a = b := by simp [jeq]
theorem jeq_false (a b : JT) : jeq a b = false ↔ a ≠ b := by simp [jeq]
theorem jeq_self (a : JT) : jeq a a = true := (jeq_iff a a).2 rfl
noncomputable def jeqL (a b : List JT) : Bool := @decide (a = b) (Classical.propDecidable _)
theorem jeqL_iff (a b : List JT) : jeqL a b = true ↔ a = b := by simp [jeqL]
theorem jeqL_false (a b : List JT) : jeqL a b = false ↔ a ≠ b := by simp [jeqL]
theorem jeq_mk (k n k' n' : Int) (s s' : List UInt8) (ks ks' : List (List UInt8)) (xs xs' : List JT) : jeq (.mk k n s ks xs) (.mk k' n' s' ks' xs') = ((((k == k' && n == n') && s == s') && ks == ks') && jeqL xs xs') := by
  rw [Bool.eq_iff_iff]
  simp only [jeq_iff, Bool.and_eq_true, beq_iff_eq, jeqL_iff, JT.mk.injEq]
  constructor
  · rintro ⟨rfl, rfl, rfl, rfl, rfl⟩; simp
  · rintro ⟨⟨⟨⟨rfl, rfl⟩, rfl⟩, rfl⟩, rfl⟩; simp
set_option maxRecDepth 100000 in
set_option maxHeartbeats 400000 in
theorem eqfunc_told (xs ys : List JT) (hcall : ∀ x ∈ xs, ∀ y, Told Tryz.prog 93 [x.av, y.av] (.c (.v (.bool (jeq x y))))) :
    Told Tryz.prog 172 [.c (.sl 5 (xs.map JT.cells)), .c (.sl 5 (ys.map JT.cells)), .fn (.func 93) [] []] (.c (.v (.bool (jeqL xs ys)))) := by
  refine VC.told ent_172 Tryz.func172 rfl Tryz.ntmps172 (by simp) rfl rfl fun hb => ?_
  simp only [abd_c, pbd_sl, List.mem_cons, List.not_mem_nil, or_false, forall_eq_or_imp, forall_eq, List.length_map] at hb
  have h1 := hb.1.1
  have h2 := hb.2.1.1
  clear hb
  refine walkG ?_
  refine VC.cond (by rfl) (by trivial) (fun hc => ?_) (fun hc => ?_)
  · have hne : jeqL xs ys = false := by
      rw [jeqL_false]
      intro e
      subst e
      simp at hc
    refine walkG ?_
    refine ⟨.inr rfl, ?_⟩
    rw [Tryz.results172, hne]
    simp only [resOk, resV, go_sem, simprocAttr]
    exact .c _
  · have hlen : xs.length = ys.length := by
      simp at hc
      omega
    refine walkG ?_
    refine VC.loop (ι := {i : Nat // i ≤ xs.length ∧ xs.take i = ys.take i}) (fun i => [(1, .c (.sl 5 (ys.map JT.cells))), (2, .fn (.func 93) [] []), (15, .c (.sl 5 (xs.map JT.cells))), (16, .c (.v (.int .i64 xs.length))), (17, .c (.v (.int .i64 i.1)))]) (fun _ => []) 0 (fun i => xs.length - i.1) ⟨0, Nat.zero_le _, rfl⟩ ?_ ?_
    · simp only [Weak, eq_self, used_is, sc_any, sc_c, sc_pp, sc_ref, sc_row, sc_agg, sc_fn, ScL, some_imp, List.forall_mem_map, go_sem, Int.reduceBEq, Int.reduceLE, Int.reduceLT, Int.reduceNeg, Nat.reduceAdd, Nat.reduceEqDiff, Nat.reduceLT, Nat.reduceLeDiff, Nat.reduceMul, Nat.reduceSub, reduceCtorEq, ↓reduceIte]
      all_goals rfl
    rintro ⟨i, hi, ht⟩
    refine walkG ?_
    refine VC.cond (by rfl) (by trivial) (fun hc => ?_) (fun hc => ?_)
    · simp only [decide_eq_true_eq] at hc
      obtain ⟨x, hx⟩ : ∃ x, xs[i]? = some x := ⟨xs[i], List.getElem?_eq_getElem (by omega)⟩
      obtain ⟨y, hy⟩ : ∃ y, ys[i]? = some y := ⟨ys[i], List.getElem?_eq_getElem (by omega)⟩
      have hw : IntKind.i64.wrap ((i : Int) + 1) = (i : Int) + 1 := wrap64_id (by omega) (by omega)
      have hcl := hcall x (List.mem_of_getElem? hx) y
      (repeat (first | refine pass ?_ | refine VC.region (by rfl) (by rfl) ?_ | (refine AO.step fun K hK => ?_; simp only [List.getElem?_map, hx, hy, len_cells, take_cells, take_cellsC, go_sem, Int.reduceBEq, Int.reduceLE, Int.reduceLT, Int.reduceNeg, Nat.reduceAdd, Nat.reduceEqDiff, Nat.reduceLT, Nat.reduceLeDiff, Nat.reduceMul, Nat.reduceSub, reduceCtorEq, ↓reduceIte]; (first | refine gsel_skip ?_ | refine gsel_go ?_ | skip); (first | refine hK _ _ _ ?_ | refine ⟨by first | omega | exact ⟨_, rfl, rfl⟩ | exact fun _ => ⟨_, rfl, rfl⟩ | (intro h; simp only [List.getElem?_map, hx, hy, len_cells, take_cells, take_cellsC, h, true_and]; omega) | (clear hK; intro h; simp_all <;> omega), hK _ _ _ ?_⟩); clear hK K) | refine VC.draw mixP (by rfl) (by rfl) ?_ | refine ⟨okd_of (by kernel_rfl), ?_⟩ | refine BQ.other (by decide) ?_ | refine VC.seq ?_ | refine AO.nil ?_ | refine VC.block ?_))
      (refine AO.step fun K hK => ?_; simp only [go_sem, Int.reduceBEq, Int.reduceLE, Int.reduceLT, Int.reduceNeg, Nat.reduceAdd, Nat.reduceEqDiff, Nat.reduceLT, Nat.reduceLeDiff, Nat.reduceMul, Nat.reduceSub, reduceCtorEq, ↓reduceIte, pureL_c]; (first | refine gsel_go ?_ | skip))
      refine .inl ⟨_, hcl, hK _ _ _ ?_⟩
      clear hK K
      refine walkG ?_
      refine VC.cond (by rfl) (by trivial) (fun hc2 => ?_) (fun hc2 => ?_)
      · have hne : jeqL xs ys = false := by
          rw [jeqL_false]
          intro e
          subst e
          rw [hx] at hy
          obtain rfl := Option.some.inj hy
          rw [jeq_self] at hc2
          simp at hc2
        refine walkG ?_
        refine ⟨.inr rfl, ?_⟩
        rw [Tryz.results172, hne]
        simp only [resOk, resV, go_sem, simprocAttr]
        exact .c _
      · have hxy : x = y := by
          rw [← jeq_iff]
          simpa using hc2
        refine walkGF (hw) ?_
        refine .next ⟨i + 1, by omega, ?_⟩ ?_ (by simp only []; omega)
        · rw [List.take_add_one, List.take_add_one, hx, hy, ht, hxy]
        simp only [Weak, eq_self, used_is, sc_any, sc_c, sc_pp, sc_ref, sc_row, sc_agg, sc_fn, ScL, some_imp, List.forall_mem_map, go_sem, Int.reduceBEq, Int.reduceLE, Int.reduceLT, Int.reduceNeg, Nat.reduceAdd, Nat.reduceEqDiff, Nat.reduceLT, Nat.reduceLeDiff, Nat.reduceMul, Nat.reduceSub, reduceCtorEq, ↓reduceIte]
        exact cI (by omega)
    · simp only [decide_eq_false_iff_not] at hc
      obtain rfl : i = xs.length := by omega
      have heq : jeqL xs ys = true := by
        rw [List.take_length, hlen, List.take_length] at ht
        rw [jeqL_iff, ht]
      refine walkG ?_
      refine ⟨.inr rfl, ?_⟩
      rw [Tryz.results172, heq]
      simp only [resOk, resV, go_sem, simprocAttr]
      exact .c _
set_option maxRecDepth 100000 in
set_option maxHeartbeats 400000 in
theorem same_told : ∀ (m : Nat) (a b : JT), SizeOf.sizeOf a ≤ m → Told Tryz.prog 93 [a.av, b.av] (.c (.v (.bool (jeq a b)))) := by
  intro m
  induction m with
  | zero => intro a b ha; cases a; simp at ha
  | succ m ih =>
  intro a b ha
  cases a with
  | mk k n s ks xs =>
  cases b with
  | mk k' n' s' ks' xs' =>
  refine VC.told ent_93 Tryz.func93 rfl Tryz.ntmps93 (by simp) rfl rfl fun hb => ?_
  clear hb
  simp only [JT.av, cells_mk, List.map_cons, List.map_nil]
  have hE := eqfunc_told xs xs' fun x hx y => ih x y (by
    have h1 := List.sizeOf_lt_of_mem hx
    simp at ha
    omega)
  refine walkGF (@str_toList) ?_
  (refine AO.step fun K hK => ?_; simp only [go_sem, Int.reduceBEq, Int.reduceLE, Int.reduceLT, Int.reduceNeg, Nat.reduceAdd, Nat.reduceEqDiff, Nat.reduceLT, Nat.reduceLeDiff, Nat.reduceMul, Nat.reduceSub, reduceCtorEq, ↓reduceIte]; (first | refine gsel_go ?_ | skip))
  refine .inl ⟨_, fun _ => sequal_told ks ks', hK _ _ _ ?_⟩
  clear hK K
  refine walkG ?_
  (refine AO.step fun K hK => ?_; simp only [go_sem, Int.reduceBEq, Int.reduceLE, Int.reduceLT, Int.reduceNeg, Nat.reduceAdd, Nat.reduceEqDiff, Nat.reduceLT, Nat.reduceLeDiff, Nat.reduceMul, Nat.reduceSub, reduceCtorEq, ↓reduceIte]; (first | refine gsel_go ?_ | skip))
  refine .inl ⟨_, fun _ => hE, hK _ _ _ ?_⟩
  clear hK K
  refine walkG ?_
  refine ⟨.inr rfl, ?_⟩
  rw [Tryz.results93]
  simp only [resOk, resV, go_sem, simprocAttr]
  rw [jeq_mk]
  exact .c _

/-! Names. -/
def isLet (c : UInt8) : Bool := (decide (97 ≤ c.toNat) && decide (c.toNat ≤ 122)) || ((decide (65 ≤ c.toNat) && decide (c.toNat ≤ 90)) || decide (c.toNat = 95))
def isDig (c : UInt8) : Bool := decide (48 ≤ c.toNat) && decide (c.toNat ≤ 57)
def simp1 : List UInt8 → Bool
  | [] => false
  | c :: cs => isLet c && cs.all fun c => isLet c || isDig c
def simpleM (s : List UInt8) : Bool := decide (s.length ≤ 100) && simp1 s
def fullF : Nat → List UInt8 → Bool
  | 0, _ => false
  | n + 1, s => simp1 (s.takeWhile (· != 46)) && (match s.dropWhile (· != 46) with | [] => true | _ :: r => fullF n r)
def fullM (s : List UInt8) : Bool := decide (s.length ≤ 100) && fullF (s.length + 1) s
theorem fullF_fuel : ∀ (n m : Nat) (s : List UInt8), s.length < n → s.length < m → fullF n s = fullF m s
  | 0, _, _, h, _ => by omega
  | _, 0, _, _, h => by omega
  | n + 1, m + 1, s, h1, h2 => by
    rw [fullF, fullF]
    congr 1
    have hd : (s.dropWhile (· != 46)).length ≤ s.length := (List.dropWhile_sublist _).length_le
    split
    · rfl
    · rename_i x r hr
      rw [hr] at hd
      simp at hd
      exact fullF_fuel n m r (by omega) (by omega)
def kwords : List (List UInt8) := [[], [110, 117, 108, 108], [98, 111, 111, 108, 101, 97, 110], [105, 110, 116], [108, 111, 110, 103], [102, 108, 111, 97, 116], [100, 111, 117, 98, 108, 101], [98, 121, 116, 101, 115], [115, 116, 114, 105, 110, 103], [114, 101, 99, 111, 114, 100], [101, 110, 117, 109], [97, 114, 114, 97, 121], [109, 97, 112], [], [102, 105, 120, 101, 100]]
def kindM (s : List UInt8) : Nat := if s = [] then 0 else match kwords.findIdx? (· == s) with | some i => i | none => 0
/-! Schemas that may be. -/
def diffM (rule : List UInt8 → Bool) (l : List (List UInt8)) : Bool := l.all rule && decide l.Nodup
def allM (rule : List UInt8 → Bool) (l : List (List UInt8)) : Bool := decide (l.length ≤ 40) && l.all rule
def jzero : JT := .mk 0 0 [] [] []
def bareM (n : NT) : Bool :=
  (namedK n.kind || (n.name.isEmpty && n.aliases.isEmpty)) && ((n.kind == 9 || n.fields.isEmpty) && ((n.kind == 10 || (n.symbols.isEmpty && (!n.has && n.dflt.isEmpty))) && ((n.kind == 14 || n.size == 0) && ((n.kind == 11 || n.kind == 12 || n.items == 0) && (n.kind == 13 || n.branches.isEmpty)))))
noncomputable def fieldM (f : FT) : Bool := allM simpleM f.aliases && (if f.has = true then jR f.dflt else jeq f.dflt jzero)
noncomputable def fieldsM (l : List FT) : Bool := l.all fieldM && (decide (l.length ≤ 40) && diffM simpleM (l.map (·.name)))
def branchM (ns : List NT) (l : List Int) (k : Int) : Bool := kindAt ns k.toNat != 13 && !l.any fun m => m == k || (!namedK (kindAt ns k.toNat) && kindAt ns m.toNat == kindAt ns k.toNat)
def branchesM (ns : List NT) : List Int → List Int → Bool
  | _, [] => true
  | l, k :: ks => branchM ns l k && branchesM ns (l ++ [k]) ks
def unionM (ns : List NT) (l : List Int) : Bool := decide (1 ≤ l.length) && (decide (l.length ≤ 10) && branchesM ns [] l)
noncomputable def nodeM (ns : List NT) (n : NT) : Bool :=
  (decide (1 ≤ n.kind) && (decide (n.kind ≤ 14) && bareM n)) && ((!namedK n.kind || (fullM n.name && (kindM n.name == 0 && allM fullM n.aliases))) && (
    if n.kind = 9 then fieldsM n.fields else if n.kind = 10 then ((n.has == n.symbols.contains n.dflt) && (n.has || n.dflt.isEmpty)) && (decide (1 ≤ n.symbols.length) && (decide (n.symbols.length ≤ 40) && diffM simpleM n.symbols))
    else if n.kind = 14 then decide (0 ≤ n.size) && decide (n.size ≤ 1000) else if n.kind = 13 then unionM ns n.branches else true))
def weighK (f : Nat → List Int → Int × List Int) : List FT → Int → List Int → Int × List Int
  | [], n, kn => (n, kn)
  | x :: xs, n, kn => weighK f xs (min (n + (f x.type.toNat kn).1) 1001) (f x.type.toNat kn).2
def knAt (kn : List Int) (k : Nat) : Int := match kn[k]? with | some n => n | none => 0
def fieldsAt (ns : List NT) (k : Nat) : List FT := match ns[k]? with | some n => (if n.kind = 9 then n.fields else []) | none => []
def weighM (ns : List NT) : Nat → Nat → List Int → Int × List Int
  | 0, _, kn => (1001, kn)
  | d + 1, p, kn => if knAt kn p < 0 then (1001, kn) else if 0 < knAt kn p then (knAt kn p, kn) else
      ((weighK (weighM ns d) (fieldsAt ns p) 1 (kn.set p (-1))).1, (weighK (weighM ns d) (fieldsAt ns p) 1 (kn.set p (-1))).2.set p (weighK (weighM ns d) (fieldsAt ns p) 1 (kn.set p (-1))).1)
noncomputable def rightL (ns : List NT) : List NT → Nat → List Int → Bool
  | [], _, _ => true
  | n :: r, p, kn => nodeM ns n && (decide ((weighM ns (ns.length + 1) p kn).1 ≤ 1000) && rightL ns r (p + 1) (weighM ns (ns.length + 1) p kn).2)
def namesM (ns : List NT) : List (List UInt8) := (ns.filter fun n => namedK n.kind).map (·.name)
noncomputable def rightM (s : ST) : Bool := orderedM s && (rightL s.nodes s.nodes 0 (List.replicate s.nodes.length 0) && diffM fullM (namesM s.nodes))
theorem right_ordered {s : ST} (h : rightM s = true) : orderedM s = true := by
  unfold rightM at h
  simp only [Bool.and_eq_true] at h
  exact h.1

theorem told_plain {P : Program} {f : FuncId} {xs : List Value} {r : Value} (hE : Enters P f) (hr : r.oneCell' = true) (h : ∀ W : World, Calls P f xs.toArray W fun e w' => e = .returned r ∧ w' = W) : Told P f (xs.map fun x => .c (.v x)) (.c (.v r)) := by
  refine ⟨hE, fun W ro vs hro hgk hl => ?_⟩
  have hvs : vs = xs := by
    apply List.ext_getElem?
    intro k
    by_cases hk : k < xs.length
    · have hkv : k < vs.length := by rw [hl.1]; simpa using hk
      have := hl.2 k _ _ (by rw [List.getElem?_map, List.getElem?_eq_getElem hk]; rfl) (List.getElem?_eq_getElem hkv)
      rw [List.getElem?_eq_getElem hkv, rep_prim this, List.getElem?_eq_getElem hk]
    · rw [List.getElem?_eq_none (by rw [hl.1]; simpa using hk), List.getElem?_eq_none (by omega)]
  subst hvs
  refine (h W).mono ?_
  rintro e W' ⟨rfl, rfl⟩
  exact ⟨r, ro, rfl, Below.refl _ _, fun b h => h, fun b h => ⟨.inl h, hro b h⟩, .c (.v hr), .c _⟩

set_option maxRecDepth 100000 in
set_option maxHeartbeats 800000 in
theorem letter_told (c : UInt8) : Told Tryz.prog 225 [.c (.v (.int .u8 (c.toNat : Int)))] (.c (.v (.bool (isLet c)))) := by
  obtain ⟨V, hV⟩ : ∃ V, V = isLet c := ⟨_, rfl⟩
  rw [← hV]
  obtain ⟨y, hy⟩ : ∃ y : Int, y = (c.toNat : Int) := ⟨_, rfl⟩
  rw [← hy]
  have hv : V = ((decide (y ≥ 97) && decide (y ≤ 122)) || ((decide (y ≥ 65) && decide (y ≤ 90)) || (y == 95))) := by
    have e : (y == 95) = decide (c.toNat = 95) := by
      rw [hy]
      by_cases h : c.toNat = 95
      · simp [h]
      · have : ¬ ((c.toNat : Int) = 95) := by omega
        simp [h, this]
    rw [hV, isLet, e, hy]
    congr 1
    · congr 1 <;> simp <;> omega
    · congr 1
      congr 1 <;> simp <;> omega
  clear hV hy
  replace hv := Lib.hid hv
  refine VC.told ent_225 Tryz.func225 rfl Tryz.ntmps225 (by simp) (by first | rfl | simp [AV.pureB, AV.pureL, pureL_c, pures]) (by first | rfl | simp [AV.pureB, AV.pureL, pureL_c, pures]) fun hb => ?_
  clear hb
  (repeat (first | refine pass ?_ | refine VC.region (by rfl) (by rfl) ?_ | (refine AO.step fun K hK => ?_; simp only [List.append_assoc, go_sem, Int.reduceBEq, Int.reduceLE, Int.reduceLT, Int.reduceNeg, Nat.reduceAdd, Nat.reduceEqDiff, Nat.reduceLT, Nat.reduceLeDiff, Nat.reduceMul, Nat.reduceSub, reduceCtorEq, ↓reduceIte]; (first | refine gsel_skip ?_ | refine gsel_go ?_ | skip); (first | refine hK _ _ _ ?_ | refine ⟨by first | omega | exact ⟨_, rfl, rfl⟩ | exact fun _ => ⟨_, rfl, rfl⟩ | (intro h; simp only [List.append_assoc, h, true_and]; omega) | (clear hK; intro h; simp_all <;> omega), hK _ _ _ ?_⟩); clear hK K) | refine VC.draw mixP (by rfl) (by rfl) ?_ | refine ⟨okd_of (by kernel_rfl), ?_⟩ | refine BQ.other (by decide) ?_ | refine VC.seq ?_ | refine AO.nil ?_ | refine VC.block ?_))
  refine ⟨by first | exact .inr rfl | exact .inl rfl, ?_⟩; rw [Tryz.results225]; simp only [resOk, resV, go_sem, simprocAttr]
  have hv2 : V = ((decide (y ≥ 97) && decide (y ≤ 122)) || (decide (y ≥ 65) && decide (y ≤ 90)) || (y == 95)) := by rw [hv.out, Bool.or_assoc]
  rw [hv2]
  exact .c _
def okAt (i : Nat) (c : UInt8) : Bool := isLet c || (decide (0 < i) && isDig c)
theorem simp1_at {s : List UInt8} : simp1 s = true ↔ s ≠ [] ∧ ∀ (i : Nat) (c : UInt8), s[i]? = some c → okAt i c = true := by
  cases s with
  | nil => simp [simp1]
  | cons x xs =>
    simp only [simp1, Bool.and_eq_true, List.all_eq_true, ne_eq, reduceCtorEq, not_false_eq_true, true_and]
    constructor
    · rintro ⟨h1, h2⟩ i c hc
      match i with
      | 0 =>
        simp at hc
        subst hc
        simp [okAt, h1]
      | i + 1 =>
        rw [List.getElem?_cons_succ] at hc
        have := h2 c (List.mem_of_getElem? hc)
        simpa [okAt] using this
    · intro h
      refine ⟨by simpa [okAt] using h 0 x rfl, fun c hc => ?_⟩
      obtain ⟨i, hi⟩ := List.getElem?_of_mem hc
      simpa [okAt] using h (i + 1) c (by rw [List.getElem?_cons_succ]; exact hi)
set_option maxRecDepth 100000 in
set_option maxHeartbeats 800000 in
theorem simple1_told (s : List UInt8) (hs : s.length ≤ 1000000000) : Told Tryz.prog 171 [.c (.v (.string (str s)))] (.c (.v (.bool (simp1 s)))) := by
  obtain ⟨V, hV⟩ : ∃ V, V = simp1 s := ⟨_, rfl⟩
  rw [← hV]
  refine VC.told ent_171 Tryz.func171 rfl Tryz.ntmps171 (by simp) (by first | rfl | simp [AV.pureB, AV.pureL, pureL_c, pures]) (by first | rfl | simp [AV.pureB, AV.pureL, pureL_c, pures]) fun hb => ?_
  clear hb
  refine walkGF (@str_size) ?_
  refine VC.loop (ι := {i : Nat // i ≤ s.length ∧ ∀ (j : Nat) (c : UInt8), j < i → s[j]? = some c → okAt j c = true})
    (fun q => [(0, .c (.v (.string (str s)))), (5, .c (.v (.int .i64 (s.length : Int)))), (6, .c (.v (.int .i64 (q.1 : Int))))]) (fun _ => []) 800 (fun q => s.length - q.1) ⟨0, Nat.zero_le _, fun j c h => by omega⟩ ?_ ?_
  · simp only [Weak, eq_self, used_is, sc_any, sc_c, sc_pp, sc_ref, sc_row, sc_agg, sc_fn, ScL, some_imp, List.forall_mem_map, go_sem, Int.reduceBEq, Int.reduceLE, Int.reduceLT, Int.reduceNeg, Nat.reduceAdd, Nat.reduceEqDiff, Nat.reduceLT, Nat.reduceLeDiff, Nat.reduceMul, Nat.reduceSub, reduceCtorEq, ↓reduceIte]
    try trivial
  rintro ⟨i, hi, ht⟩
  simp only []
  refine walkG ?_
  refine VC.cond (by rfl) (by trivial) (fun hc => ?_) (fun hc => ?_)
  · have hlt : i < s.length := by simp at hc; omega
    obtain ⟨c, hx⟩ : ∃ c, s[i]? = some c := ⟨s[i], List.getElem?_eq_getElem hlt⟩
    have hw : IntKind.i64.wrap ((i : Int) + 1) = (i : Int) + 1 := wrap64_id (by omega) (by omega)
    have hL := letter_told c
    refine walkGF (And.intro @str_size (And.intro @str_dl hx)) ?_
    refine walkC (hL) ?_
    refine walkGF (And.intro @str_size (And.intro @str_dl hx)) ?_
    refine VC.cond (by rfl) (by trivial) (fun hc2 => ?_) (fun hc2 => ?_)
    · have hf : V = false := by
        cases h : V with
        | false => rfl
        | true =>
          rw [hV, simp1_at] at h
          have := h.2 i c hx
          cases hl : isLet c with
          | true => simp [hl] at hc2
          | false =>
            simp [okAt, isDig, hl] at this hc2
            omega
      subst hf
      refine walkG ?_
      refine ⟨by first | exact .inr rfl | exact .inl rfl, ?_⟩; rw [Tryz.results171]; simp only [resOk, resV, go_sem, simprocAttr]
      exact .c _
    · refine walkGF (hw) ?_
      refine .next ⟨i + 1, by omega, ?_⟩ ?_ (by simp only []; omega)
      · intro j d hj hd
        by_cases hji : j < i
        · exact ht j d hji hd
        · obtain rfl : j = i := by omega
          rw [hx] at hd
          obtain rfl := Option.some.inj hd
          cases hl : isLet c with
          | true => simp [okAt, hl]
          | false =>
            simp [okAt, isDig, hl] at hc2 ⊢
            omega
      simp only [Weak, eq_self, used_is, sc_any, sc_c, sc_pp, sc_ref, sc_row, sc_agg, sc_fn, ScL, some_imp, List.forall_mem_map, go_sem, Int.reduceBEq, Int.reduceLE, Int.reduceLT, Int.reduceNeg, Nat.reduceAdd, Nat.reduceEqDiff, Nat.reduceLT, Nat.reduceLeDiff, Nat.reduceMul, Nat.reduceSub, reduceCtorEq, ↓reduceIte]
      try exact cI (by omega)
  · have hE : (⟨#[]⟩ : ByteArray).toList = [] := str_toList []
    have hie : i = s.length := by simp at hc; omega
    have hf : V = !(s == []) := by
      rw [hV, Bool.eq_iff_iff, simp1_at]
      constructor
      · rintro ⟨h1, _⟩
        simpa using h1
      · intro h1
        refine ⟨by simpa using h1, fun j c hj => ht j c ?_ hj⟩
        have := (List.getElem?_eq_some_iff.1 hj).1
        omega
    refine walkGF (And.intro @str_toList hE) ?_
    refine ⟨by first | exact .inr rfl | exact .inl rfl, ?_⟩; rw [Tryz.results171]; simp only [resOk, resV, go_sem, simprocAttr]
    rw [hf]
    exact .c _
set_option maxRecDepth 100000 in
set_option maxHeartbeats 800000 in
theorem simple_told (s : List UInt8) (hs : s.length ≤ 1000000000) : Told Tryz.prog 168 [.c (.v (.string (str s)))] (.c (.v (.bool (simpleM s)))) := by
  obtain ⟨V, hV⟩ : ∃ V, V = simpleM s := ⟨_, rfl⟩
  rw [← hV]
  have hv : V = (decide ((s.length : Int) ≤ 100) && simp1 s) := by
    rw [hV, simpleM]
    congr 1
    simp
    omega
  have hT := simple1_told s hs
  clear hV
  refine VC.told ent_168 Tryz.func168 rfl Tryz.ntmps168 (by simp) (by first | rfl | simp [AV.pureB, AV.pureL, pureL_c, pures]) (by first | rfl | simp [AV.pureB, AV.pureL, pureL_c, pures]) fun hb => ?_
  clear hb
  refine walkGF (@str_size) ?_
  refine walkD (hT) ?_
  refine walkG ?_
  refine ⟨by first | exact .inr rfl | exact .inl rfl, ?_⟩; rw [Tryz.results168]; simp only [resOk, resV, go_sem, simprocAttr]
  rw [hv]
  exact .c _

theorem index_take (c : UInt8) : ∀ s : List UInt8, (Lib.indexByte s c = -1 ∧ s.takeWhile (· != c) = s ∧ s.dropWhile (· != c) = []) ∨ (∃ i : Nat, i < s.length ∧ Lib.indexByte s c = (i : Int) ∧ s.takeWhile (· != c) = s.take i ∧ s.dropWhile (· != c) = c :: s.drop (i + 1))
  | [] => .inl ⟨rfl, rfl, rfl⟩
  | x :: xs => by
    by_cases h : x = c
    · subst h
      exact .inr ⟨0, by simp, by simp [Lib.indexByte], by simp, by simp⟩
    · have hb : (x == c) = false := by simp [h]
      have hb' : (x != c) = true := by simp [h]
      rcases index_take c xs with ⟨h1, h2, h3⟩ | ⟨i, h0, h1, h2, h3⟩
      · exact .inl ⟨by simp [Lib.indexByte, hb, h1], by rw [List.takeWhile_cons, if_pos hb', h2], by rw [List.dropWhile_cons, if_pos hb', h3]⟩
      · refine .inr ⟨i + 1, by simp; omega, ?_, by rw [List.takeWhile_cons, if_pos hb', h2]; rfl, by rw [List.dropWhile_cons, if_pos hb', h3]; rfl⟩
        rw [Lib.indexByte, hb, h1]
        have : ((i : Int) == -1) = false := by simp
        simp [this]
theorem str_extract (l : List UInt8) (a b : Nat) : (str l).extract a b = str ((l.take b).drop a) := by
  apply ByteArray.ext
  simp [str, ByteArray.data_extract, List.drop_take]
theorem index_told (s : List UInt8) : Told Tryz.prog 255 [.c (.v (.string (str s))), .c (.v (.string ⟨#[46]⟩))] (.c (.v (.int .i64 (Lib.indexByte s 46)))) :=
  told_plain (xs := [.string (str s), .string ⟨#[46]⟩]) ent_255 rfl fun W => Tryz.stringslite_Index_one (str s) 46 W
set_option maxRecDepth 100000 in
set_option maxHeartbeats 800000 in
theorem cut0_told (s : List UInt8) (hs : s.length ≤ 1000000000) : Told Tryz.prog 224 [.c (.v (.string (str s))), .c (.v (.string ⟨#[46]⟩))] (.tup [.c (.v (.string (str (s.takeWhile (· != 46))))), .c (.v (.string (str (s.dropWhile (· != 46)).tail))), .c (.v (.bool (!(s.dropWhile (· != 46)).isEmpty)))]) := by
  have hI := index_told s
  rcases index_take 46 s with ⟨h1, h2, h3⟩ | ⟨i, h0, h1, h2, h3⟩
  · rw [h2, h3]
    rw [h1] at hI
    refine VC.told ent_224 Tryz.func224 rfl Tryz.ntmps224 (by simp) (by first | rfl | simp [AV.pureB, AV.pureL, pureL_c, pures]) (by first | rfl | simp [AV.pureB, AV.pureL, pureL_c, pures]) fun hb => ?_
    clear hb
    refine walkG ?_
    refine walkC (hI) ?_
    refine walkB ?_
    refine ⟨by first | exact .inr rfl | exact .inl rfl, ?_⟩; rw [Tryz.results224]; simp only [resOk, resV, go_sem, simprocAttr]
    exact ⟨.c _, .c _, .c _⟩
  · rw [h2, h3]
    rw [h1] at hI
    have hd : decide ((i : Int) ≥ 0) = true := by simp
    have hz : (⟨#[46]⟩ : ByteArray).size = 1 := rfl
    have hw : IntKind.i64.wrap ((i : Int) + 1) = (i : Int) + 1 := wrap64_id (by omega) (by omega)
    have hx1 : (str s).extract 0 i = str (s.take i) := by
      rw [str_extract, List.drop_zero]
    have hx2 : (str s).extract (i + 1) s.length = str (s.drop (i + 1)) := by
      rw [str_extract, List.take_length]
    have ht : ((i : Int) + 1).toNat = i + 1 := by omega
    refine VC.told ent_224 Tryz.func224 rfl Tryz.ntmps224 (by simp) (by first | rfl | simp [AV.pureB, AV.pureL, pureL_c, pures]) (by first | rfl | simp [AV.pureB, AV.pureL, pureL_c, pures]) fun hb => ?_
    clear hb
    refine walkG ?_
    refine walkC (hI) ?_
    refine walkBF (And.intro hd (And.intro hz (And.intro hw @str_size))) ?_
    refine ⟨by first | exact .inr rfl | exact .inl rfl, ?_⟩; rw [Tryz.results224]; simp only [resOk, resV, go_sem, simprocAttr]
    rw [ht, hx1, hx2]
    exact ⟨.c _, .c _, .c _⟩
theorem cut_told (s : List UInt8) (hs : s.length ≤ 1000000000) : Told Tryz.prog 170 [.c (.v (.string (str s))), .c (.v (.string ⟨#[46]⟩))] (.tup [.c (.v (.string (str (s.takeWhile (· != 46))))), .c (.v (.string (str (s.dropWhile (· != 46)).tail))), .c (.v (.bool (!(s.dropWhile (· != 46)).isEmpty)))]) := by
  have hI := cut0_told s hs
  refine VC.told ent_170 Tryz.func170 rfl Tryz.ntmps170 (by simp) (by first | rfl | simp [AV.pureB, AV.pureL, pureL_c, pures]) (by first | rfl | simp [AV.pureB, AV.pureL, pureL_c, pures]) fun hb => ?_
  clear hb
  refine walkG ?_
  refine walkC (hI) ?_
  refine walkG ?_
  refine ⟨by first | exact .inr rfl | exact .inl rfl, ?_⟩; rw [Tryz.results170]; simp only [resOk, resV, go_sem, simprocAttr]
  exact ⟨.c _, .c _, .c _⟩
set_option maxRecDepth 100000 in
set_option maxHeartbeats 800000 in
theorem full_told (s : List UInt8) (hs : s.length ≤ 1000000000) : Told Tryz.prog 89 [.c (.v (.string (str s)))] (.c (.v (.bool (fullM s)))) := by
  obtain ⟨V, hV⟩ : ∃ V, V = fullM s := ⟨_, rfl⟩
  rw [← hV]
  unfold fullM at hV
  refine VC.told ent_89 Tryz.func89 rfl Tryz.ntmps89 (by simp) (by first | rfl | simp [AV.pureB, AV.pureL, pureL_c, pures]) (by first | rfl | simp [AV.pureB, AV.pureL, pureL_c, pures]) fun hb => ?_
  clear hb
  refine walkGF (@str_size) ?_
  refine VC.cond (by rfl) (by trivial) (fun hc => ?_) (fun hc => ?_)
  · have hf : V = false := by
      have : ¬ (s.length ≤ 100) := by simp at hc; omega
      rw [hV]
      simp [this]
    subst hf
    refine walkG ?_
    refine ⟨by first | exact .inr rfl | exact .inl rfl, ?_⟩; rw [Tryz.results89]; simp only [resOk, resV, go_sem, simprocAttr]
    exact .c _
  have hl : s.length ≤ 100 := by simp at hc; omega
  have hv : fullF (s.length + 1) s = V := by rw [hV]; simp [hl]
  clear hV hc
  refine walkG ?_
  refine VC.loop (ι := {l : List UInt8 // l.length ≤ 100 ∧ fullF (l.length + 1) l = V}) (fun q => [(0, .c (.v (.string (str q.1))))]) (fun _ => []) 800 (fun q => q.1.length) ⟨s, hl, hv⟩ ?_ ?_
  · simp only [Weak, eq_self, used_is, sc_any, sc_c, sc_pp, sc_ref, sc_row, sc_agg, sc_fn, ScL, some_imp, List.forall_mem_map, go_sem, Int.reduceBEq, Int.reduceLE, Int.reduceLT, Int.reduceNeg, Nat.reduceAdd, Nat.reduceEqDiff, Nat.reduceLT, Nat.reduceLeDiff, Nat.reduceMul, Nat.reduceSub, reduceCtorEq, ↓reduceIte]
  rintro ⟨l, hl, hv⟩
  simp only []
  rw [fullF] at hv
  have hC := cut_told l (by omega)
  obtain ⟨p, hp⟩ : ∃ p, p = l.takeWhile (· != 46) := ⟨_, rfl⟩
  obtain ⟨D, hD⟩ : ∃ D, D = l.dropWhile (· != 46) := ⟨_, rfl⟩
  have hpl : p.length ≤ l.length := by rw [hp]; exact (List.takeWhile_sublist _).length_le
  have hDl : D.length ≤ l.length := by rw [hD]; exact (List.dropWhile_sublist _).length_le
  rw [← hp, ← hD] at hC hv
  clear hp hD
  have hS := simple1_told p (by omega)
  refine walkG ?_
  refine walkC (hC) ?_
  refine walkG ?_
  refine walkC (hS) ?_
  refine walkG ?_
  refine VC.cond (by rfl) (by trivial) (fun hc => ?_) (fun hc => ?_)
  · have hf : V = false := by
      rw [← hv]
      have : simp1 p = false := by simpa using hc
      simp [this]
    subst hf
    refine walkG ?_
    refine ⟨by first | exact .inr rfl | exact .inl rfl, ?_⟩; rw [Tryz.results89]; simp only [resOk, resV, go_sem, simprocAttr]
    exact .c _
  have hp1 : simp1 p = true := by simpa using hc
  rw [hp1, Bool.true_and] at hv
  refine walkG ?_
  refine VC.cond (by rfl) (by trivial) (fun hc2 => ?_) (fun hc2 => ?_)
  · cases D with
    | cons x r => simp at hc2
    | nil =>
      have hf : V = true := hv.symm
      subst hf
      refine walkG ?_
      refine ⟨by first | exact .inr rfl | exact .inl rfl, ?_⟩; rw [Tryz.results89]; simp only [resOk, resV, go_sem, simprocAttr]
      exact .c _
  · cases D with
    | nil => simp at hc2
    | cons x r =>
      simp only [] at hv
      simp only [List.length_cons] at hDl
      (repeat (first | refine pass ?_ | refine VC.region (by rfl) (by rfl) ?_ | (refine AO.step fun K hK => ?_; simp only [List.tail_cons, go_sem, Int.reduceBEq, Int.reduceLE, Int.reduceLT, Int.reduceNeg, Nat.reduceAdd, Nat.reduceEqDiff, Nat.reduceLT, Nat.reduceLeDiff, Nat.reduceMul, Nat.reduceSub, reduceCtorEq, ↓reduceIte]; (first | refine gsel_skip ?_ | refine gsel_go ?_ | skip); (first | refine hK _ _ _ ?_ | refine ⟨by first | omega | exact ⟨_, rfl, rfl⟩ | exact fun _ => ⟨_, rfl, rfl⟩ | (intro h; simp only [List.tail_cons, h, true_and]; omega) | (clear hK; intro h; simp_all <;> omega), hK _ _ _ ?_⟩); clear hK K) | refine VC.draw mixP (by rfl) (by rfl) ?_ | refine ⟨okd_of (by kernel_rfl), ?_⟩ | refine BQ.other (by decide) ?_ | refine VC.seq ?_ | refine AO.nil ?_ | refine VC.block ?_))
      refine .next ⟨r, by omega, by rw [← hv]; exact fullF_fuel _ _ _ (by omega) (by omega)⟩ ?_ (by simp only []; omega)
      simp only [Weak, eq_self, used_is, sc_any, sc_c, sc_pp, sc_ref, sc_row, sc_agg, sc_fn, ScL, some_imp, List.forall_mem_map, go_sem, Int.reduceBEq, Int.reduceLE, Int.reduceLT, Int.reduceNeg, Nat.reduceAdd, Nat.reduceEqDiff, Nat.reduceLT, Nat.reduceLeDiff, Nat.reduceMul, Nat.reduceSub, reduceCtorEq, ↓reduceIte]
set_option maxRecDepth 100000 in
set_option maxHeartbeats 800000 in
theorem kind_told (s : List UInt8) : Told Tryz.prog 164 [.c (.v (.string (str s)))] (.c (.v (.int .i64 (kindM s : Int)))) := by
  obtain ⟨V, hV⟩ : ∃ V, V = kindM s := ⟨_, rfl⟩
  rw [← hV]
  obtain ⟨L, hL⟩ : ∃ L, L = kwords.map fun l => PV.v (.string (str l)) := ⟨_, rfl⟩
  have hg : glob Tryz.prog 0 = some L := by rw [hL]; kernel_rfl
  have hLl : L.length = 15 := by rw [hL]; rfl
  have hLt : L.take 15 = L := by rw [← hLl, List.take_length]
  refine VC.told ent_164 Tryz.func164 rfl Tryz.ntmps164 (by simp) (by first | rfl | simp [AV.pureB, AV.pureL, pureL_c, pures]) (by first | rfl | simp [AV.pureB, AV.pureL, pureL_c, pures]) fun hb => ?_
  clear hb
  refine walkGF (And.intro hg (And.intro hLl hLt)) ?_
  have hE : (⟨#[]⟩ : ByteArray).toList = [] := str_toList []
  have hkl : kwords.length = 15 := rfl
  refine VC.loop (ι := {i : Nat // i ≤ 15 ∧ ∀ (j : Nat) (w : List UInt8), j < i → kwords[j]? = some w → s ≠ [] → w ≠ s}) (fun q => [(0, .c (.v (.string (str s)))), (5, .agg (L.map .c)), (6, .c (.v (.int .i64 (q.1 : Int))))]) (fun _ => []) 800 (fun q => 15 - q.1) ⟨0, by omega, fun j w h => by omega⟩ ?_ ?_
  · simp only [Weak, eq_self, used_is, sc_any, sc_c, sc_pp, sc_ref, sc_row, sc_agg, sc_fn, ScL, some_imp, List.forall_mem_map, go_sem, Int.reduceBEq, Int.reduceLE, Int.reduceLT, Int.reduceNeg, Nat.reduceAdd, Nat.reduceEqDiff, Nat.reduceLT, Nat.reduceLeDiff, Nat.reduceMul, Nat.reduceSub, reduceCtorEq, ↓reduceIte]
  rintro ⟨i, hi, ht⟩
  simp only []
  refine walkG ?_
  refine VC.cond (by rfl) (by trivial) (fun hc => ?_) (fun hc => ?_)
  · have hlt : i < 15 := by simp at hc; omega
    obtain ⟨w, hx⟩ : ∃ w, kwords[i]? = some w := ⟨kwords[i]'(by omega), List.getElem?_eq_getElem (by omega)⟩
    have hLx : (L.map AV.c)[i]? = some (.c (.v (.string (str w)))) := by rw [hL, List.getElem?_map, List.getElem?_map, hx]; rfl
    have hw : IntKind.i64.wrap ((i : Int) + 1) = (i : Int) + 1 := wrap64_id (by omega) (by omega)
    refine walkGF (And.intro hLx (And.intro @str_toList hE)) ?_
    refine VC.cond (by rfl) (by trivial) (fun hc2 => ?_) (fun hc2 => ?_)
    · have hh : w = s ∧ s ≠ [] := by simpa using hc2
      have hf : V = i := by
        rw [hV, kindM, if_neg hh.2]
        have : kwords.findIdx? (· == s) = some i := by
          rw [List.findIdx?_eq_some_iff_getElem]
          refine ⟨by omega, ?_, fun j hj => ?_⟩
          · have := (List.getElem?_eq_some_iff.1 hx).2
            simp [this, hh.1]
          · have := ht j _ hj (List.getElem?_eq_getElem (by omega)) hh.2
            simpa using this
        rw [this]
      subst hf
      refine walkG ?_
      refine ⟨by first | exact .inr rfl | exact .inl rfl, ?_⟩; rw [Tryz.results164]; simp only [resOk, resV, go_sem, simprocAttr]
      exact .c _
    · have hh : ¬ (w = s ∧ s ≠ []) := by simpa using hc2
      refine walkGF (hw) ?_
      refine .next ⟨i + 1, by omega, ?_⟩ ?_ (by simp only []; omega)
      · intro j u hj hu hs
        by_cases hji : j < i
        · exact ht j u hji hu hs
        · obtain rfl : j = i := by omega
          rw [hx] at hu
          obtain rfl := Option.some.inj hu
          exact fun e => hh ⟨e, hs⟩
      simp only [Weak, eq_self, used_is, sc_any, sc_c, sc_pp, sc_ref, sc_row, sc_agg, sc_fn, ScL, some_imp, List.forall_mem_map, go_sem, Int.reduceBEq, Int.reduceLE, Int.reduceLT, Int.reduceNeg, Nat.reduceAdd, Nat.reduceEqDiff, Nat.reduceLT, Nat.reduceLeDiff, Nat.reduceMul, Nat.reduceSub, reduceCtorEq, ↓reduceIte]
      exact cI (by omega)
  · have hie : i = 15 := by simp at hc; omega
    have hf : V = 0 := by
      rw [hV, kindM]
      split
      · rfl
      · rename_i hs
        have : kwords.findIdx? (· == s) = none := by
          rw [List.findIdx?_eq_none_iff]
          intro w hw
          obtain ⟨j, hj⟩ := List.getElem?_of_mem hw
          have := ht j w (by have := (List.getElem?_eq_some_iff.1 hj).1; omega) hj hs
          simpa using this
        rw [this]
    subst hf
    refine walkG ?_
    refine ⟨by first | exact .inr rfl | exact .inl rfl, ?_⟩; rw [Tryz.results164]; simp only [resOk, resV, go_sem, simprocAttr]
    exact .c _

set_option maxRecDepth 100000 in
set_option maxHeartbeats 400000 in
theorem sindex_told (ks : List (List UInt8)) (key : List UInt8) : Told Tryz.prog 102 [.c (.sl 1 (ks.map sPV)), .c (.v (.string (str key)))] (.c (.v (.int .i64 (idxS key ks)))) := by
  refine VC.told ent_102 Tryz.func102 rfl Tryz.ntmps102 (by simp) rfl rfl fun hb => ?_
  simp only [abd_c, pbd_sl, pbd_v, List.mem_cons, List.not_mem_nil, or_false, forall_eq_or_imp, forall_eq, List.length_map, and_true] at hb
  have h1 := hb.1
  clear hb
  refine walkG ?_
  refine VC.loop (ι := {i : Nat // i ≤ ks.length ∧ ∀ j, j < i → ks[j]? ≠ some key}) (fun i => [(0, .c (.sl 1 (ks.map sPV))), (1, .c (.v (.string (str key)))), (7, .c (.v (.int .i64 ks.length))), (8, .c (.v (.int .i64 i.1)))]) (fun _ => []) 0 (fun i => ks.length - i.1) ⟨0, Nat.zero_le _, by intro j hj; omega⟩ ?_ ?_
  · simp only [Weak, eq_self, used_is, sc_any, sc_c, sc_pp, sc_ref, sc_row, sc_agg, sc_fn, ScL, some_imp, List.forall_mem_map, go_sem, Int.reduceBEq, Int.reduceLE, Int.reduceLT, Int.reduceNeg, Nat.reduceAdd, Nat.reduceEqDiff, Nat.reduceLT, Nat.reduceLeDiff, Nat.reduceMul, Nat.reduceSub, reduceCtorEq, ↓reduceIte]
    all_goals rfl
  rintro ⟨i, hi, ht⟩
  refine walkG ?_
  refine VC.cond (by rfl) (by trivial) (fun hc => ?_) (fun hc => ?_)
  · simp only [decide_eq_true_eq] at hc
    obtain ⟨x, hx⟩ : ∃ x, ks[i]? = some x := ⟨ks[i], List.getElem?_eq_getElem (by omega)⟩
    have hw : IntKind.i64.wrap ((i : Int) + 1) = (i : Int) + 1 := wrap64_id (by omega) (by omega)
    (repeat (first | refine pass ?_ | refine VC.region (by rfl) (by rfl) ?_ | (refine AO.step fun K hK => ?_; simp only [List.getElem?_map, hx, sPV, str_toList, go_sem, Int.reduceBEq, Int.reduceLE, Int.reduceLT, Int.reduceNeg, Nat.reduceAdd, Nat.reduceEqDiff, Nat.reduceLT, Nat.reduceLeDiff, Nat.reduceMul, Nat.reduceSub, reduceCtorEq, ↓reduceIte]; (first | refine gsel_skip ?_ | refine gsel_go ?_ | skip); (first | refine hK _ _ _ ?_ | refine ⟨by first | omega | exact ⟨_, rfl, rfl⟩ | exact fun _ => ⟨_, rfl, rfl⟩ | (intro h; simp only [List.getElem?_map, hx, sPV, str_toList, h, true_and]; omega) | (clear hK; intro h; simp_all <;> omega), hK _ _ _ ?_⟩); clear hK K) | refine VC.draw mixP (by rfl) (by rfl) ?_ | refine ⟨okd_of (by kernel_rfl), ?_⟩ | refine BQ.other (by decide) ?_ | refine VC.seq ?_ | refine AO.nil ?_ | refine VC.block ?_))
    refine VC.cond (by rfl) (by trivial) (fun hc2 => ?_) (fun hc2 => ?_)
    · have hxy : key = x := by simpa using hc2
      subst hxy
      have hr := idxS_at hx ht
      refine walkG ?_
      refine ⟨.inr rfl, ?_⟩
      rw [Tryz.results102, hr]
      simp only [resOk, resV, go_sem, simprocAttr]
      exact .c _
    · have hxy : key ≠ x := by simpa using hc2
      refine walkGF (hw) ?_
      refine .next ⟨i + 1, by omega, fun j hj => ?_⟩ ?_ (by simp only []; omega)
      · rcases Nat.lt_or_ge j i with h | h
        · exact ht j h
        · obtain rfl : j = i := by omega
          rw [hx]
          intro e
          exact hxy (Option.some.inj e).symm
      simp only [Weak, eq_self, used_is, sc_any, sc_c, sc_pp, sc_ref, sc_row, sc_agg, sc_fn, ScL, some_imp, List.forall_mem_map, go_sem, Int.reduceBEq, Int.reduceLE, Int.reduceLT, Int.reduceNeg, Nat.reduceAdd, Nat.reduceEqDiff, Nat.reduceLT, Nat.reduceLeDiff, Nat.reduceMul, Nat.reduceSub, reduceCtorEq, ↓reduceIte]
      exact cI (by omega)
  · simp only [decide_eq_false_iff_not] at hc
    obtain rfl : i = ks.length := by omega
    have hr := idxS_none ht
    refine walkG ?_
    refine ⟨.inr rfl, ?_⟩
    rw [Tryz.results102, hr]
    simp only [resOk, resV, go_sem, simprocAttr]
    exact .c _

theorem named_told (k : Int) : Told Tryz.prog 87 [.c (.v (.int .i64 k))] (.c (.v (.bool (namedK k)))) := by
  obtain ⟨V, hV⟩ : ∃ V, V = namedK k := ⟨_, rfl⟩
  rw [← hV]
  unfold namedK at hV
  replace hV := Lib.hid hV
  refine VC.told ent_87 Tryz.func87 rfl Tryz.ntmps87 (by simp) (by first | rfl | simp [AV.pureB, AV.pureL, pureL_c, pures]) (by first | rfl | simp [AV.pureB, AV.pureL, pureL_c, pures]) fun hb => ?_
  clear hb
  refine walkG ?_
  refine ⟨by first | exact .inr rfl | exact .inl rfl, ?_⟩; rw [Tryz.results87]; simp only [resOk, resV, go_sem, simprocAttr]
  rw [hV.out]
  exact .c _
theorem idxS_ge (key : List UInt8) (ks : List (List UInt8)) : decide (idxS key ks ≥ 0) = ks.contains key := by
  unfold idxS
  cases h : ks.findIdx? (fun k => decide (key = k)) with
  | none =>
    rw [List.findIdx?_eq_none_iff] at h
    have : key ∉ ks := fun hm => by simpa using h key hm
    simp [this]
  | some i =>
    rw [List.findIdx?_eq_some_iff_getElem] at h
    obtain ⟨hi, h1, _⟩ := h
    have : key ∈ ks := by
      have := List.getElem_mem hi
      simp at h1
      rwa [← h1] at this
    simp [this]
set_option maxRecDepth 100000 in
set_option maxHeartbeats 400000 in
theorem contains_told (ks : List (List UInt8)) (key : List UInt8) : Told Tryz.prog 167 [.c (.sl 1 (ks.map sPV)), .c (.v (.string (str key)))] (.c (.v (.bool (ks.contains key)))) := by
  have hI := sindex_told ks key
  have hG := idxS_ge key ks
  generalize idxS key ks = z at hI hG
  rw [← hG]
  clear hG
  refine VC.told ent_167 Tryz.func167 rfl Tryz.ntmps167 (by simp) (by first | rfl | simp [AV.pureB, AV.pureL, pureL_c, pures]) (by first | rfl | simp [AV.pureB, AV.pureL, pureL_c, pures]) fun hb => ?_
  clear hb
  refine walkG ?_
  refine walkC (hI) ?_
  refine walkG ?_
  refine ⟨by first | exact .inr rfl | exact .inl rfl, ?_⟩; rw [Tryz.results167]; simp only [resOk, resV, go_sem, simprocAttr]
  exact .c _
def fnP (g : FuncId) : PV := .v (.func (.func g) ⟨[]⟩ ⟨[]⟩)
theorem diffM_take {rule : List UInt8 → Bool} {l : List (List UInt8)} {i : Nat} {x : List UInt8} (hx : l[i]? = some x) : diffM rule (l.take (i + 1)) = (diffM rule (l.take i) && (rule x && !(l.take i).contains x)) := by
  have ht : l.take (i + 1) = l.take i ++ [x] := by
    rw [List.take_add_one, hx]
    rfl
  rw [ht, Bool.eq_iff_iff]
  simp only [diffM, List.all_append, List.all_cons, List.all_nil, Bool.and_true, Bool.and_eq_true, decide_eq_true_eq, List.nodup_append, Bool.not_eq_true', List.contains_eq_mem, decide_eq_false_iff_not]
  constructor
  · rintro ⟨⟨h1, h2⟩, h3, _, h5⟩
    exact ⟨⟨h1, h3⟩, h2, fun h => h5 x h x (by simp) rfl⟩
  · rintro ⟨⟨h1, h3⟩, h2, h4⟩
    exact ⟨⟨h1, h2⟩, h3, by simp, fun a ha b hb => by
      obtain rfl := List.mem_singleton.1 hb
      rintro rfl
      exact h4 ha⟩
set_option maxRecDepth 100000 in
set_option maxHeartbeats 800000 in
theorem different_told {g : FuncId} {rule : List UInt8 → Bool} (l : List (List UInt8)) (hl : l.length ≤ 1000000000) (hk : ∀ x ∈ l, Told Tryz.prog g [.c (.v (.string (str x)))] (.c (.v (.bool (rule x))))) :
    Told Tryz.prog 88 [.c (.sl 1 (l.map sPV)), .fn (.func g) [] []] (.c (.v (.bool (diffM rule l)))) := by
  obtain ⟨V, hV⟩ : ∃ V, V = diffM rule l := ⟨_, rfl⟩
  rw [← hV]
  refine VC.told ent_88 Tryz.func88 rfl Tryz.ntmps88 (by simp) (by first | rfl | simp [AV.pureB, AV.pureL, pureL_c, pures]) (by first | rfl | simp [AV.pureB, AV.pureL, pureL_c, pures]) fun hb => ?_
  clear hb
  refine walkG ?_
  refine VC.loop (ι := {i : Nat // i ≤ l.length ∧ diffM rule (l.take i) = true}) (fun q => [(0, .c (.sl 1 (l.map sPV))), (1, .fn (.func g) [] []), (7, .c (.sl 1 (l.map sPV))), (8, .c (.v (.int .i64 (l.length : Int)))), (9, .c (.v (.int .i64 (q.1 : Int))))]) (fun _ => []) 800 (fun q => l.length - q.1) ⟨0, Nat.zero_le _, by simp [diffM]⟩ ?_ ?_
  · simp only [Weak, eq_self, used_is, sc_any, sc_c, sc_pp, sc_ref, sc_row, sc_agg, sc_fn, ScL, some_imp, List.forall_mem_map, go_sem, Int.reduceBEq, Int.reduceLE, Int.reduceLT, Int.reduceNeg, Nat.reduceAdd, Nat.reduceEqDiff, Nat.reduceLT, Nat.reduceLeDiff, Nat.reduceMul, Nat.reduceSub, reduceCtorEq, ↓reduceIte]
    try simp
  rintro ⟨i, hi, ht⟩
  simp only []
  refine walkG ?_
  refine VC.cond (by rfl) (by trivial) (fun hc => ?_) (fun hc => ?_)
  · have hlt : i < l.length := by simp at hc; omega
    obtain ⟨x, hx⟩ : ∃ x, l[i]? = some x := ⟨l[i], List.getElem?_eq_getElem hlt⟩
    have hw : IntKind.i64.wrap ((i : Int) + 1) = (i : Int) + 1 := wrap64_id (by omega) (by omega)
    have hxp : (l.map sPV)[i]? = some (sPV x) := by rw [List.getElem?_map, hx]; rfl
    have hT := hk x (List.mem_of_getElem? hx)
    have hC := contains_told (l.take i) x
    have hn := diffM_take (rule := rule) hx
    rw [ht, Bool.true_and] at hn
    have hmt : (l.map sPV).take i = (l.take i).map sPV := by rw [List.map_take]
    refine walkGF (And.intro hxp @sPV_eq) ?_
    refine walkC (hT) ?_
    refine walkGF (hmt) ?_
    refine walkD (hC) ?_
    refine walkG ?_
    refine VC.cond (by rfl) (by trivial) (fun hc2 => ?_) (fun hc2 => ?_)
    · have hf : V = false := by
        cases h : V with
        | false => rfl
        | true =>
          rw [hV] at h
          have hall : diffM rule (l.take (i + 1)) = true := by
            unfold diffM at h ⊢
            simp only [Bool.and_eq_true, List.all_eq_true, decide_eq_true_eq] at h ⊢
            exact ⟨fun y hy => h.1 y (List.mem_of_mem_take hy), h.2.sublist (List.take_sublist _ _)⟩
          rw [hn] at hall
          simp at hall hc2
          simp [hall] at hc2
      subst hf
      refine walkG ?_
      refine ⟨by first | exact .inr rfl | exact .inl rfl, ?_⟩; rw [Tryz.results88]; simp only [resOk, resV, go_sem, simprocAttr]
      exact .c _
    · refine walkGF (hw) ?_
      refine .next ⟨i + 1, by omega, ?_⟩ ?_ (by simp only []; omega)
      · rw [hn]
        simpa using hc2
      simp only [Weak, eq_self, used_is, sc_any, sc_c, sc_pp, sc_ref, sc_row, sc_agg, sc_fn, ScL, some_imp, List.forall_mem_map, go_sem, Int.reduceBEq, Int.reduceLE, Int.reduceLT, Int.reduceNeg, Nat.reduceAdd, Nat.reduceEqDiff, Nat.reduceLT, Nat.reduceLeDiff, Nat.reduceMul, Nat.reduceSub, reduceCtorEq, ↓reduceIte]
      try exact cI (by omega)
  · have hie : i = l.length := by simp at hc; omega
    have hf : V = true := by
      rw [hie, List.take_length] at ht
      rw [hV, ht]
    subst hf
    refine walkG ?_
    refine ⟨by first | exact .inr rfl | exact .inl rfl, ?_⟩; rw [Tryz.results88]; simp only [resOk, resV, go_sem, simprocAttr]
    exact .c _

def bkeys5 : Nat → List (List UInt8) → Option Nat
  | n, [] => some n
  | n, y :: ys => if n ≤ 2500 then (if 2500 < y.length then none else bkeys5 (n + 1 + y.length) ys) else some n
mutual
def tbulk5 (d : Nat) : JT → Nat
  | .mk k n s ks xs => if 60 < d ∨ 2500 < s.length ∨ 2500 < ks.length ∨ 2500 < xs.length then 2501 else match bkeys5 (1 + s.length) ks with | none => 2501 | some n => bitems5 d n xs
def bitems5 (d : Nat) : Nat → List JT → Nat
  | n, [] => n
  | n, x :: xs => if n ≤ 2500 then bitems5 d (n + tbulk5 (d + 1) x) xs else n
end
theorem bkeys5_le : ∀ (ys : List (List UInt8)) (n m : Nat), n ≤ 5001 → bkeys5 n ys = some m → m ≤ 5001
  | [], n, m, h, e => by simp [bkeys5] at e; omega
  | y :: ys, n, m, h, e => by
    rw [bkeys5] at e
    split at e
    · split at e
      · simp at e
      · exact bkeys5_le ys _ m (by omega) e
    · simp at e; omega
mutual
theorem tbulk5_le (d : Nat) : ∀ (t : JT), tbulk5 d t ≤ 5001 + 2501 * (61 - d)
  | .mk k n s ks xs => by
    rw [tbulk5]
    split
    · omega
    · rename_i h
      split
      · omega
      · rename_i m hm
        exact bitems5_le d xs m (by have := bkeys5_le ks _ _ (by omega) hm; omega)
theorem bitems5_le (d : Nat) : ∀ (xs : List JT) (n : Nat), n ≤ 5001 + 2501 * (61 - d) → bitems5 d n xs ≤ 5001 + 2501 * (61 - d)
  | [], n, h => by rw [bitems5]; exact h
  | x :: xs, n, h => by
    rw [bitems5]
    split
    · have := tbulk5_le (d + 1) x
      by_cases hd : 60 < d
      · have h2 : tbulk5 (d + 1) x = 2501 := by
          cases x
          rw [tbulk5, if_pos (by omega)]
        exact bitems5_le d xs _ (by omega)
      · exact bitems5_le d xs _ (by omega)
    · exact h
end
theorem bitems5_ge (d : Nat) : ∀ (xs : List JT) (n : Nat), n ≤ bitems5 d n xs
  | [], n => by rw [bitems5]; exact Nat.le_refl _
  | x :: xs, n => by
    rw [bitems5]
    split
    · exact Nat.le_trans (Nat.le_add_right _ _) (bitems5_ge d xs _)
    · exact Nat.le_refl _
mutual
theorem tbulk5_deep (d : Nat) : ∀ (t : JT), tbulk5 d t ≤ 2500 → tdeep t + d ≤ 61
  | .mk k n s ks xs => fun h => by
    rw [tbulk5] at h
    split at h
    · omega
    · rename_i hd
      split at h
      · omega
      · rw [tdeep]
        split
        · exact bitems5_deep d xs _ 1 (by omega) h
        · omega
theorem bitems5_deep (d : Nat) : ∀ (xs : List JT) (n m : Nat), m + d ≤ 61 → bitems5 d n xs ≤ 2500 → tdeeps m xs + d ≤ 61
  | [], n, m, hm, h => by rw [tdeeps]; exact hm
  | x :: xs, n, m, hm, h => by
    rw [bitems5] at h
    split at h
    · have h1 := bitems5_ge d xs (n + tbulk5 (d + 1) x)
      have h2 := tbulk5_deep (d + 1) x (by omega)
      rw [tdeeps]
      exact bitems5_deep d xs _ _ (by omega) h
    · omega
end
theorem bkeys5_step {ks : List (List UInt8)} {i n : Nat} {y : List UInt8} (hy : ks[i]? = some y) (hn : n ≤ 2500) (hl : y.length ≤ 2500) : bkeys5 n (ks.drop i) = bkeys5 (n + 1 + y.length) (ks.drop (i + 1)) := by
  obtain ⟨hlt, rfl⟩ := List.getElem?_eq_some_iff.1 hy
  rw [List.drop_eq_getElem_cons hlt, bkeys5, if_pos hn, if_neg (by omega)]
theorem bkeys5_none {ks : List (List UInt8)} {i n : Nat} {y : List UInt8} (hy : ks[i]? = some y) (hn : n ≤ 2500) (hl : 2500 < y.length) : bkeys5 n (ks.drop i) = none := by
  obtain ⟨hlt, rfl⟩ := List.getElem?_eq_some_iff.1 hy
  rw [List.drop_eq_getElem_cons hlt, bkeys5, if_pos hn, if_pos hl]
theorem bkeys5_end {ks : List (List UInt8)} {i n : Nat} (h : ¬ (i < ks.length ∧ n ≤ 2500)) : bkeys5 n (ks.drop i) = some n := by
  by_cases hlt : i < ks.length
  · rw [List.drop_eq_getElem_cons hlt, bkeys5, if_neg (by omega)]
  · rw [List.drop_of_length_le (by omega), bkeys5]
theorem bitems5_step {d : Nat} {xs : List JT} {i n : Nat} {x : JT} (hx : xs[i]? = some x) (hn : n ≤ 2500) : bitems5 d n (xs.drop i) = bitems5 d (n + tbulk5 (d + 1) x) (xs.drop (i + 1)) := by
  obtain ⟨hlt, rfl⟩ := List.getElem?_eq_some_iff.1 hx
  rw [List.drop_eq_getElem_cons hlt, bitems5, if_pos hn]
theorem bitems5_end {d : Nat} {xs : List JT} {i n : Nat} (h : ¬ (i < xs.length ∧ n ≤ 2500)) : bitems5 d n (xs.drop i) = n := by
  by_cases hlt : i < xs.length
  · rw [List.drop_eq_getElem_cons hlt, bitems5, if_neg (by omega)]
  · rw [List.drop_of_length_le (by omega), bitems5]
set_option maxRecDepth 100000 in
set_option maxHeartbeats 800000 in
theorem bulk_told5 : ∀ (m : Nat) (t : JT), SizeOf.sizeOf t ≤ m → ∀ (d : Nat) (z : Int), d ≤ 61 → z = (d : Int) → Told Tryz.prog 64 [t.av, .c (.v (.int .i64 2500)), .c (.v (.int .i64 z))] (.c (.v (.int .i64 (tbulk5 d t)))) := by
  intro m
  induction m with
  | zero => intro t ht; cases t; simp at ht
  | succ m ih =>
  intro t ht d z hd hz
  cases t with
  | mk k n s ks xs =>
  have hbl := tbulk5_le d (.mk k n s ks xs)
  have hbi := bitems5_le d xs
  refine VC.told ent_64 Tryz.func64 rfl Tryz.ntmps64 (by simp) rfl rfl fun hb => ?_
  simp only [JT.av, cells_mk, List.map_cons, List.map_nil, abd_agg, abd_c, pbd_v, pbd_sl, List.mem_cons, List.not_mem_nil, or_false, forall_eq_or_imp, forall_eq, true_and, List.length_map] at hb ⊢
  clear hb
  have hw21 : IntKind.i64.wrap (2500 + 1) = 2501 := by rfl
  rw [tbulk5] at hbl ⊢
  refine walkGF (@str_size) ?_
  refine VC.cond (by rfl) (by trivial) (fun hc => ?_) (fun hc => ?_)
  · have hcc : 60 < d ∨ 2500 < s.length ∨ 2500 < ks.length ∨ 2500 < xs.length := by
      simp at hc
      omega
    rw [if_pos hcc]
    refine walkGF (hw21) ?_
    refine ⟨.inr rfl, ?_⟩
    rw [Tryz.results64]
    simp only [resOk, resV, go_sem, simprocAttr]
    exact .c _
  · have hcc : ¬ (60 < d ∨ 2500 < s.length ∨ 2500 < ks.length ∨ 2500 < xs.length) := by
      simp at hc
      omega
    rw [if_neg hcc] at hbl ⊢
    clear hc
    obtain ⟨V, hV⟩ : ∃ V, V = bkeys5 (1 + s.length) ks := ⟨_, rfl⟩
    rw [← hV] at hbl ⊢
    have hw1 : IntKind.i64.wrap (1 + (s.length : Int)) = 1 + (s.length : Int) := wrap64_id (by omega) (by omega)
    refine walkGF (And.intro @cells_mk (And.intro @str_size hw1)) ?_
    refine VC.loop (ι := {p : Nat × Nat // p.1 ≤ ks.length ∧ p.2 ≤ 5001 ∧ bkeys5 p.2 (ks.drop p.1) = V}) (fun p => [(1, .c (.v (.int .i64 2500))), (2, .c (.v (.int .i64 z))), (3, .ref 0 1 0 0), (7, .c (.v (.int .i64 p.1.2))), (8, .c (.v (.int .i64 p.1.1)))])
      (fun _ => [(0, ⟨false, 36, 5, [(JT.mk k n s ks xs).cells.map .c]⟩)]) 8 (fun p => ks.length - p.1.1) ⟨(0, 1 + s.length), Nat.zero_le _, by simp only []; omega, by simpa using hV.symm⟩ ?_ ?_
    · simp only [cells_mk, Weak, eq_self, used_is, sc_any, sc_c, sc_pp, sc_ref, sc_row, sc_agg, sc_fn, ScL, some_imp, List.forall_mem_map, go_sem, Int.reduceBEq, Int.reduceLE, Int.reduceLT, Int.reduceNeg, Nat.reduceAdd, Nat.reduceEqDiff, Nat.reduceLT, Nat.reduceLeDiff, Nat.reduceMul, Nat.reduceSub, reduceCtorEq, ↓reduceIte]
      all_goals first | rfl | exact cI (by omega)
    rintro ⟨⟨i, b⟩, hi, hb, hbk⟩
    simp only [] at hi hb hbk ⊢
    refine walkGF (@cells_mk) ?_
    refine VC.cond (by rfl) (by trivial) (fun hc => ?_) (fun hc => ?_)
    · have hcc : i < ks.length ∧ b ≤ 2500 := by
        simp at hc
        omega
      clear hc
      obtain ⟨y, hy⟩ : ∃ y, ks[i]? = some y := ⟨ks[i], List.getElem?_eq_getElem hcc.1⟩
      (repeat (first | refine pass ?_ | refine VC.region (by rfl) (by rfl) ?_ | (refine AO.step fun K hK => ?_; simp only [cells_mk, List.getElem?_map, hy, sPV, str_size, go_sem, Int.reduceBEq, Int.reduceLE, Int.reduceLT, Int.reduceNeg, Nat.reduceAdd, Nat.reduceEqDiff, Nat.reduceLT, Nat.reduceLeDiff, Nat.reduceMul, Nat.reduceSub, reduceCtorEq, ↓reduceIte]; (first | refine gsel_skip ?_ | refine gsel_go ?_ | skip); (first | refine hK _ _ _ ?_ | refine ⟨by first | omega | exact ⟨_, rfl, rfl⟩ | exact fun _ => ⟨_, rfl, rfl⟩ | (intro h; simp only [cells_mk, List.getElem?_map, hy, sPV, str_size, h, true_and]; omega) | (clear hK; intro h; simp_all <;> omega), hK _ _ _ ?_⟩); clear hK K) | refine VC.draw mixP (by rfl) (by rfl) ?_ | refine ⟨okd_of (by kernel_rfl), ?_⟩ | refine BQ.other (by decide) ?_ | refine VC.seq ?_ | refine AO.nil ?_ | refine VC.block ?_))
      refine VC.cond (by rfl) (by trivial) (fun hc => ?_) (fun hc => ?_)
      · have hl : 2500 < y.length := by
          simp at hc
          omega
        obtain rfl : V = none := hbk.symm.trans (bkeys5_none hy hcc.2 hl)
        refine walkGF (hw21) ?_
        refine ⟨.inr rfl, ?_⟩
        rw [Tryz.results64]
        simp only [resOk, resV, go_sem, simprocAttr]
        exact .c _
      · have hl : y.length ≤ 2500 := by
          simp at hc
          omega
        have hw2 : IntKind.i64.wrap ((b : Int) + 1) = (b : Int) + 1 := wrap64_id (by omega) (by omega)
        have hw3 : IntKind.i64.wrap ((b : Int) + 1 + (y.length : Int)) = (b : Int) + 1 + (y.length : Int) := wrap64_id (by omega) (by omega)
        have hw4 : IntKind.i64.wrap ((i : Int) + 1) = (i : Int) + 1 := wrap64_id (by omega) (by omega)
        (repeat (first | refine pass ?_ | refine VC.region (by rfl) (by rfl) ?_ | (refine AO.step fun K hK => ?_; simp only [cells_mk, List.getElem?_map, hy, sPV, str_size, hw2, hw3, hw4, go_sem, Int.reduceBEq, Int.reduceLE, Int.reduceLT, Int.reduceNeg, Nat.reduceAdd, Nat.reduceEqDiff, Nat.reduceLT, Nat.reduceLeDiff, Nat.reduceMul, Nat.reduceSub, reduceCtorEq, ↓reduceIte]; (first | refine gsel_skip ?_ | refine gsel_go ?_ | skip); (first | refine hK _ _ _ ?_ | refine ⟨by first | omega | exact ⟨_, rfl, rfl⟩ | exact fun _ => ⟨_, rfl, rfl⟩ | (intro h; simp only [cells_mk, List.getElem?_map, hy, sPV, str_size, hw2, hw3, hw4, h, true_and]; omega) | (clear hK; intro h; simp_all <;> omega), hK _ _ _ ?_⟩); clear hK K) | refine VC.draw mixP (by rfl) (by rfl) ?_ | refine ⟨okd_of (by kernel_rfl), ?_⟩ | refine BQ.other (by decide) ?_ | refine VC.seq ?_ | refine AO.nil ?_ | refine VC.block ?_))
        refine .next ⟨(i + 1, b + 1 + y.length), by simp only []; omega, by simp only []; omega, by simp only []; rw [← hbk, bkeys5_step hy hcc.2 hl]⟩ ?_ (by simp only []; omega)
        simp only [cells_mk, Weak, eq_self, used_is, sc_any, sc_c, sc_pp, sc_ref, sc_row, sc_agg, sc_fn, ScL, some_imp, List.forall_mem_map, go_sem, Int.reduceBEq, Int.reduceLE, Int.reduceLT, Int.reduceNeg, Nat.reduceAdd, Nat.reduceEqDiff, Nat.reduceLT, Nat.reduceLeDiff, Nat.reduceMul, Nat.reduceSub, reduceCtorEq, ↓reduceIte]
        exact ⟨cI (by omega), cI (by omega)⟩
    · have hcc : ¬ (i < ks.length ∧ b ≤ 2500) := by
        simp at hc
        omega
      clear hc
      obtain rfl : V = some b := hbk.symm.trans (bkeys5_end hcc)
      simp only [] at hbl ⊢
      obtain ⟨V, hV2⟩ : ∃ V, V = bitems5 d b xs := ⟨_, rfl⟩
      rw [← hV2] at hbl ⊢
      refine walkG ?_
      refine VC.loop (ι := {p : Nat × Nat // p.1 ≤ xs.length ∧ p.2 ≤ 5001 + 2501 * (61 - d) ∧ bitems5 d p.2 (xs.drop p.1) = V}) (fun p => [(1, .c (.v (.int .i64 2500))), (2, .c (.v (.int .i64 z))), (3, .ref 0 1 0 0), (7, .c (.v (.int .i64 p.1.2))), (9, .c (.v (.int .i64 p.1.1)))])
        (fun _ => [(0, ⟨false, 36, 5, [(JT.mk k n s ks xs).cells.map .c]⟩)]) 8 (fun p => xs.length - p.1.1) ⟨(0, b), Nat.zero_le _, by simp only []; omega, by simpa using hV2.symm⟩ ?_ ?_
      · simp only [cells_mk, Weak, eq_self, used_is, sc_any, sc_c, sc_pp, sc_ref, sc_row, sc_agg, sc_fn, ScL, some_imp, List.forall_mem_map, go_sem, Int.reduceBEq, Int.reduceLE, Int.reduceLT, Int.reduceNeg, Nat.reduceAdd, Nat.reduceEqDiff, Nat.reduceLT, Nat.reduceLeDiff, Nat.reduceMul, Nat.reduceSub, reduceCtorEq, ↓reduceIte]
        all_goals rfl
      clear hi hcc hbk
      rintro ⟨⟨i, c⟩, hi, hcb, hbt⟩
      simp only [] at hi hcb hbt ⊢
      refine walkGF (@cells_mk) ?_
      refine VC.cond (by rfl) (by trivial) (fun hc => ?_) (fun hc => ?_)
      · have hcc : i < xs.length ∧ c ≤ 2500 := by
          simp at hc
          omega
        clear hc
        obtain ⟨x, hx⟩ : ∃ x, xs[i]? = some x := ⟨xs[i], List.getElem?_eq_getElem hcc.1⟩
        have hxm := List.mem_of_getElem? hx
        have hsz : SizeOf.sizeOf x ≤ m := by
          have h1 := List.sizeOf_lt_of_mem hxm
          simp at ht
          omega
        have hcall := ih x hsz (d + 1) (z + 1) (by omega) (by omega)
        have hxb := tbulk5_le (d + 1) x
        have hw1 : IntKind.i64.wrap (z + 1) = z + 1 := wrap64_id (by omega) (by omega)
        have hw2 : IntKind.i64.wrap ((c : Int) + (tbulk5 (d + 1) x : Int)) = (c : Int) + (tbulk5 (d + 1) x : Int) := wrap64_id (by omega) (by omega)
        have hw4 : IntKind.i64.wrap ((i : Int) + 1) = (i : Int) + 1 := wrap64_id (by omega) (by omega)
        (repeat (first | refine pass ?_ | refine VC.region (by rfl) (by rfl) ?_ | (refine AO.step fun K hK => ?_; simp only [cells_mk, List.getElem?_map, hx, len_cells, take_cells, take_cellsC, hw1, go_sem, Int.reduceBEq, Int.reduceLE, Int.reduceLT, Int.reduceNeg, Nat.reduceAdd, Nat.reduceEqDiff, Nat.reduceLT, Nat.reduceLeDiff, Nat.reduceMul, Nat.reduceSub, reduceCtorEq, ↓reduceIte]; (first | refine gsel_skip ?_ | refine gsel_go ?_ | skip); (first | refine hK _ _ _ ?_ | refine ⟨by first | omega | exact ⟨_, rfl, rfl⟩ | exact fun _ => ⟨_, rfl, rfl⟩ | (intro h; simp only [cells_mk, List.getElem?_map, hx, len_cells, take_cells, take_cellsC, hw1, h, true_and]; omega) | (clear hK; intro h; simp_all <;> omega), hK _ _ _ ?_⟩); clear hK K) | refine VC.draw mixP (by rfl) (by rfl) ?_ | refine ⟨okd_of (by kernel_rfl), ?_⟩ | refine BQ.other (by decide) ?_ | refine VC.seq ?_ | refine AO.nil ?_ | refine VC.block ?_))
        (refine AO.step fun K hK => ?_; simp only [go_sem, Int.reduceBEq, Int.reduceLE, Int.reduceLT, Int.reduceNeg, Nat.reduceAdd, Nat.reduceEqDiff, Nat.reduceLT, Nat.reduceLeDiff, Nat.reduceMul, Nat.reduceSub, reduceCtorEq, ↓reduceIte, pureL_c]; (first | refine gsel_go ?_ | skip))
        refine .inl ⟨_, hcall, hK _ _ _ ?_⟩
        clear hK K
        refine walkGF (And.intro hw2 hw4) ?_
        refine .next ⟨(i + 1, c + tbulk5 (d + 1) x), by simp only []; omega, by simp only []; omega, by simp only []; rw [← hbt, bitems5_step hx hcc.2]⟩ ?_ (by simp only []; omega)
        simp only [cells_mk, Weak, eq_self, used_is, sc_any, sc_c, sc_pp, sc_ref, sc_row, sc_agg, sc_fn, ScL, some_imp, List.forall_mem_map, go_sem, Int.reduceBEq, Int.reduceLE, Int.reduceLT, Int.reduceNeg, Nat.reduceAdd, Nat.reduceEqDiff, Nat.reduceLT, Nat.reduceLeDiff, Nat.reduceMul, Nat.reduceSub, reduceCtorEq, ↓reduceIte]
        exact ⟨cI (by omega), cI (by omega)⟩
      · have hcc : ¬ (i < xs.length ∧ c ≤ 2500) := by
          simp at hc
          omega
        obtain rfl : V = c := hbt.symm.trans (bitems5_end hcc)
        refine walkG ?_
        refine ⟨.inr rfl, ?_⟩
        rw [Tryz.results64]
        simp only [resOk, resV, go_sem, simprocAttr]
        exact .c _
/-! A tree that is not great is small. -/
theorem bkeys5_len : ∀ (ys : List (List UInt8)) (n m : Nat), bkeys5 n ys = some m → m ≤ 2500 → n + ys.length ≤ m ∧ ∀ y ∈ ys, y.length ≤ 2500
  | [], n, m, h, hm => by rw [bkeys5] at h; obtain rfl := Option.some.inj h; exact ⟨by simp, by simp⟩
  | y :: ys, n, m, h, hm => by
    rw [bkeys5] at h
    split at h
    · split at h
      · simp at h
      · obtain ⟨h1, h2⟩ := bkeys5_len ys _ m h hm
        refine ⟨by simp; omega, fun z hz => ?_⟩
        rcases List.mem_cons.1 hz with rfl | hz
        · omega
        · exact h2 z hz
    · obtain rfl := Option.some.inj h
      omega
mutual
theorem bulk_sm5 (d : Nat) : ∀ t : JT, tbulk5 d t ≤ 2500 → t.sm 2500
  | .mk k n s ks xs => fun h => by
    rw [tbulk5] at h
    split at h
    · omega
    · rename_i h1
      split at h
      · omega
      · rename_i m hm
        have h2 := bitems5_ge d xs m
        obtain ⟨_, h3⟩ := bkeys5_len ks _ m hm (by omega)
        exact ⟨by omega, by omega, h3, by omega, bitems5_sm d m xs h⟩
theorem bitems5_sm (d n : Nat) : ∀ xs : List JT, bitems5 d n xs ≤ 2500 → JT.smL 2500 xs
  | [] => fun _ => trivial
  | x :: xs => fun h => by
    rw [bitems5] at h
    split at h
    · have := bitems5_ge d xs (n + tbulk5 (d + 1) x)
      exact ⟨bulk_sm5 (d + 1) x (by omega), bitems5_sm d _ xs h⟩
    · omega
end

def textsL : Nat → List (List UInt8) → Nat
  | n, [] => n
  | n, y :: ys => if n ≤ 2500 then (if 2500 < y.length then 2501 else textsL (n + y.length) ys) else n
def textsB (l : List (List UInt8)) : Nat := if 2500 < l.length then 2501 else textsL l.length l
def fieldsB : Nat → List FT → Option Nat
  | n, [] => some n
  | n, f :: fs => if n ≤ 2500 then (if 2500 < f.name.length then none else fieldsB (n + f.name.length + textsB f.aliases + tbulk5 0 f.dflt) fs) else some n
def nodesB : Nat → List NT → Nat
  | n, [] => n
  | n, x :: xs => if n ≤ 2500 then (if 2500 < x.name.length ∨ 2500 < x.fields.length ∨ 2500 < x.branches.length ∨ 2500 < x.dflt.length then 2501 else
      match fieldsB (n + x.name.length + x.fields.length + x.branches.length + x.dflt.length + textsB x.aliases + textsB x.symbols) x.fields with | none => 2501 | some m => nodesB m xs) else n
def sbulk (s : ST) : Nat := if 2500 < s.nodes.length then 2501 else nodesB s.nodes.length s.nodes
def FT.sm (N : Nat) (f : FT) : Prop := f.name.length ≤ N ∧ f.aliases.length ≤ N ∧ (∀ y ∈ f.aliases, y.length ≤ N) ∧ f.dflt.sm N
def NT.sm (N : Nat) (n : NT) : Prop := n.name.length ≤ N ∧ n.dflt.length ≤ N ∧ (n.aliases.length ≤ N ∧ ∀ y ∈ n.aliases, y.length ≤ N) ∧ (n.symbols.length ≤ N ∧ ∀ y ∈ n.symbols, y.length ≤ N) ∧ n.branches.length ≤ N ∧ (n.fields.length ≤ N ∧ ∀ f ∈ n.fields, f.sm N)
def ST.sm (N : Nat) (s : ST) : Prop := s.nodes.length ≤ N ∧ ∀ n ∈ s.nodes, n.sm N
theorem textsL_le : ∀ (l : List (List UInt8)) (n : Nat), n ≤ 5000 → textsL n l ≤ 5000
  | [], n, h => h
  | y :: ys, n, h => by
    rw [textsL]
    split
    · split
      · omega
      · exact textsL_le ys _ (by omega)
    · exact h
theorem textsL_ge : ∀ (l : List (List UInt8)) (n : Nat), n ≤ 2500 ∨ True → textsL n l ≤ 2500 → n ≤ textsL n l ∧ ∀ y ∈ l, y.length ≤ 2500
  | [], n, _, _ => ⟨Nat.le_refl _, by simp⟩
  | y :: ys, n, _, h => by
    rw [textsL] at h ⊢
    split at h
    · rename_i h1
      rw [if_pos h1]
      split at h
      · omega
      · rename_i h2
        rw [if_neg h2]
        obtain ⟨h3, h4⟩ := textsL_ge ys _ (.inr trivial) h
        refine ⟨by omega, fun z hz => ?_⟩
        rcases List.mem_cons.1 hz with rfl | hz
        · omega
        · exact h4 z hz
    · omega
theorem textsB_le (l : List (List UInt8)) : textsB l ≤ 5000 := by
  unfold textsB
  split
  · omega
  · exact textsL_le l _ (by omega)
theorem textsB_sm {l : List (List UInt8)} (h : textsB l ≤ 2500) : l.length ≤ 2500 ∧ ∀ y ∈ l, y.length ≤ 2500 := by
  unfold textsB at h
  split at h
  · omega
  · rename_i h1
    exact ⟨by omega, (textsL_ge l _ (.inr trivial) h).2⟩
theorem tbulk5_top (t : JT) : tbulk5 0 t ≤ 200000 := by
  have := tbulk5_le 0 t
  omega
theorem fieldsB_le : ∀ (l : List FT) (n m : Nat), n ≤ 300000 → fieldsB n l = some m → m ≤ 300000
  | [], n, m, h, e => by rw [fieldsB] at e; obtain rfl := Option.some.inj e; exact h
  | f :: fs, n, m, h, e => by
    rw [fieldsB] at e
    have h1 := textsB_le f.aliases
    have h2 := tbulk5_top f.dflt
    split at e
    · split at e
      · simp at e
      · exact fieldsB_le fs _ m (by omega) e
    · obtain rfl := Option.some.inj e; exact h
theorem fieldsB_sm : ∀ (l : List FT) (n m : Nat), fieldsB n l = some m → m ≤ 2500 → n ≤ m ∧ ∀ f ∈ l, f.sm 2500
  | [], n, m, e, h => by rw [fieldsB] at e; obtain rfl := Option.some.inj e; exact ⟨Nat.le_refl _, by simp⟩
  | f :: fs, n, m, e, h => by
    rw [fieldsB] at e
    split at e
    · split at e
      · simp at e
      · rename_i h1 h2
        obtain ⟨h3, h4⟩ := fieldsB_sm fs _ m e h
        refine ⟨by omega, fun g hg => ?_⟩
        rcases List.mem_cons.1 hg with rfl | hg
        · obtain ⟨h5, h6⟩ := textsB_sm (l := g.aliases) (by omega)
          exact ⟨by omega, h5, h6, bulk_sm5 0 _ (by omega)⟩
        · exact h4 g hg
    · obtain rfl := Option.some.inj e
      omega
theorem nodesB_sm : ∀ (l : List NT) (n : Nat), nodesB n l ≤ 2500 → n ≤ nodesB n l ∧ ∀ x ∈ l, x.sm 2500
  | [], n, h => ⟨Nat.le_refl _, by simp⟩
  | x :: xs, n, h => by
    rw [nodesB] at h ⊢
    split at h
    · rename_i h1
      rw [if_pos h1]
      split at h
      · omega
      · rename_i h2
        rw [if_neg h2]
        split at h
        · omega
        · rename_i m hm
          obtain ⟨h3, h4⟩ := nodesB_sm xs m h
          obtain ⟨h5, h6⟩ := fieldsB_sm _ _ m hm (by omega)
          refine ⟨by omega, fun y hy => ?_⟩
          rcases List.mem_cons.1 hy with rfl | hy
          · exact ⟨by omega, by omega, textsB_sm (by omega), textsB_sm (by omega), by omega, by omega, h6⟩
          · exact h4 y hy
    · omega
theorem sbulk_sm {s : ST} (h : sbulk s ≤ 2500) : s.sm 2500 := by
  unfold sbulk at h
  split at h
  · omega
  · exact ⟨by omega, (nodesB_sm _ _ h).2⟩

theorem tyFn : tyA Tryz.prog 137 = some ⟨false, 1, 8, [.nilFunc], 0, [], 0, []⟩ := by kernel_rfl
set_option maxRecDepth 100000 in
set_option maxHeartbeats 400000 in
theorem all1_told {g : FuncId} {x : List UInt8} {b : Bool} (h : Told Tryz.prog g [.c (.v (.string (str x)))] (.c (.v (.bool b)))) : Told Tryz.prog 221 [.c (.v (.string (str x))), .pp [fnP g]] (.c (.v (.bool (!b)))) := by
  unfold fnP
  refine VC.told ent_221 Tryz.func221 rfl Tryz.ntmps221 (by simp) (by first | rfl | simp [AV.pureB, AV.pureL, pureL_c, pures]) (by first | rfl | simp [AV.pureB, AV.pureL, pureL_c, pures]) fun hb => ?_
  clear hb
  refine walkGF (tyFn) ?_
  (refine AO.step fun K hK => ?_; simp only [go_sem, Int.reduceBEq, Int.reduceLE, Int.reduceLT, Int.reduceNeg, Nat.reduceAdd, Nat.reduceEqDiff, Nat.reduceLT, Nat.reduceLeDiff, Nat.reduceMul, Nat.reduceSub, reduceCtorEq, ↓reduceIte, tyFn]; (first | refine gsel_go ?_ | skip))
  refine ⟨_, h, hK _ _ _ ?_⟩
  clear hK K
  refine walkG ?_
  refine ⟨by first | exact .inr rfl | exact .inl rfl, ?_⟩; rw [Tryz.results221]; simp only [resOk, resV, go_sem, simprocAttr]
  exact .c _
set_option maxRecDepth 100000 in
set_option maxHeartbeats 800000 in
theorem all_told {g : FuncId} {rule : List UInt8 → Bool} (l : List (List UInt8)) (hk : ∀ x ∈ l, Told Tryz.prog g [.c (.v (.string (str x)))] (.c (.v (.bool (rule x))))) :
    Told Tryz.prog 165 [.c (.sl 1 (l.map sPV)), .fn (.func g) [] []] (.c (.v (.bool (allM rule l)))) := by
  obtain ⟨V, hV⟩ : ∃ V, V = allM rule l := ⟨_, rfl⟩
  rw [← hV]
  have hF := cnfS_told (g := 221) (fs := []) (cs := [.pp [fnP g]]) rfl rfl l (fun x => !rule x) fun x hx => all1_told (hk x hx)
  have hv : V = (decide ((l.length : Int) ≤ 40) && !(l.any fun x => !rule x)) := by
    rw [hV, allM]
    congr 1
    · simp
      omega
    · rw [Bool.eq_iff_iff]
      simp
  clear hV
  replace hv := Lib.hid hv
  refine VC.told ent_165 Tryz.func165 rfl Tryz.ntmps165 (by simp) (by first | rfl | simp [AV.pureB, AV.pureL, pureL_c, pures]) (by first | rfl | simp [AV.pureB, AV.pureL, pureL_c, pures]) fun hb => ?_
  clear hb
  refine VC.frz [] [(0, .c (.sl 1 (l.map sPV))), (1, .c (fnP g))] [] 0 ?_ ?_
  · simp only [WeakF, used_is, sc_any, sc_c, sc_pp, sc_ref, sc_row, sc_agg, sc_fn, ScL, some_imp, List.forall_mem_map, go_sem, Int.reduceBEq, Int.reduceLE, Int.reduceLT, Int.reduceNeg, Nat.reduceAdd, Nat.reduceEqDiff, Nat.reduceLT, Nat.reduceLeDiff, Nat.reduceMul, Nat.reduceSub, reduceCtorEq, ↓reduceIte]
    exact ⟨.same _, .fnV⟩
  (refine VC.seq ?_; (first | refine VC.region (by rfl) (by rfl) ?_ | refine VC.draw mixP (by rfl) (by rfl) ?_); (repeat (refine AO.step fun K hK => ?_; simp only [go_sem, Int.reduceBEq, Int.reduceLE, Int.reduceLT, Int.reduceNeg, Nat.reduceAdd, Nat.reduceEqDiff, Nat.reduceLT, Nat.reduceLeDiff, Nat.reduceMul, Nat.reduceSub, reduceCtorEq, ↓reduceIte]; (first | refine gsel_skip ?_ | refine gsel_go ?_ | skip); (first | refine hK _ _ _ ?_ | refine ⟨by first | omega | exact ⟨_, rfl, rfl⟩ | exact fun _ => ⟨_, rfl, rfl⟩ | (intro h; simp only [h, true_and]; omega) | (clear hK; intro h; simp_all <;> omega), hK _ _ _ ?_⟩); clear hK K)); refine AO.nil ?_; first | refine SQ.normal ?_ | refine ⟨okd_of (by kernel_rfl), SQ.normal ?_⟩)
  refine VC.frz [0] [(0, .c (.sl 1 (l.map sPV))), (3, .pp [fnP g])] [] 400 ?_ ?_
  · simp only [WeakF, used_is, sc_any, sc_c, sc_pp, sc_ref, sc_row, sc_agg, sc_fn, ScL, some_imp, List.forall_mem_map, go_sem, Int.reduceBEq, Int.reduceLE, Int.reduceLT, Int.reduceNeg, Nat.reduceAdd, Nat.reduceEqDiff, Nat.reduceLT, Nat.reduceLeDiff, Nat.reduceMul, Nat.reduceSub, reduceCtorEq, ↓reduceIte]
    exact ⟨.same _, .ref (es := [fnP g]) (by simp) rfl rfl rfl rfl⟩
  refine walkG ?_
  refine walkD (hF) ?_
  refine walkG ?_
  refine ⟨by first | exact .inr rfl | exact .inl rfl, ?_⟩; rw [Tryz.results165]; simp only [resOk, resV, go_sem, simprocAttr]
  rw [hv.out]
  exact .c _
set_option maxRecDepth 100000 in
set_option maxHeartbeats 800000 in
theorem kids_told (n : NT) (hn : n.sm 1000000) : Told Tryz.prog 49 [n.av] (.c (.sl 1 ((kidsN n).map iPV))) := by
  obtain ⟨L, hL⟩ : ∃ L, L = kidsN n := ⟨_, rfl⟩
  rw [← hL]
  unfold kidsN at hL
  have hfl := hn.2.2.2.2.2.1
  have hbl := hn.2.2.2.2.1
  rw [NT.av_eq, ncells_mk]
  refine VC.told ent_49 Tryz.func49 rfl Tryz.ntmps49 (by simp) (by first | rfl | simp [AV.pureB, AV.pureL, pureL_c, pures]) (by first | rfl | simp [AV.pureB, AV.pureL, pureL_c, pures]) fun hb => ?_
  clear hb
  by_cases h9 : n.kind = 9
  · rw [if_pos h9] at hL
    subst hL
    rw [h9]
    refine walkB ?_
    refine VC.nil 3 3 1 (by rfl) (by trivial) (by rfl) ?_
    refine VC.loop (ι := {i : Nat // i ≤ n.fields.length}) (fun q => [(3, .row 88 q.1), (11, .c (.sl 9 (n.fields.map FT.cells))), (12, .c (.v (.int .i64 (n.fields.length : Int)))), (13, .c (.v (.int .i64 (q.1 : Int))))])
      (fun q => [(88, ⟨true, 3, 1, rA iPV ((n.fields.map (·.type)).take q.1)⟩)]) 800 (fun q => n.fields.length - q.1) ⟨0, Nat.zero_le _⟩ ?_ ?_
    · simp only [rA_len, rA_sc, rA_nil, Weak, eq_self, used_is, sc_any, sc_c, sc_pp, sc_ref, sc_row, sc_agg, sc_fn, ScL, some_imp, List.forall_mem_map, go_sem, Int.reduceBEq, Int.reduceLE, Int.reduceLT, Int.reduceNeg, Nat.reduceAdd, Nat.reduceEqDiff, Nat.reduceLT, Nat.reduceLeDiff, Nat.reduceMul, Nat.reduceSub, reduceCtorEq, ↓reduceIte]
      try simp
    rintro ⟨i, hi⟩
    simp only []
    refine walkG ?_
    refine VC.cond (by rfl) (by trivial) (fun hc => ?_) (fun hc => ?_)
    · have hlt : i < n.fields.length := by simp at hc; omega
      obtain ⟨f, hx⟩ : ∃ f, n.fields[i]? = some f := ⟨n.fields[i], List.getElem?_eq_getElem hlt⟩
      have hw : IntKind.i64.wrap ((i : Int) + 1) = (i : Int) + 1 := wrap64_id (by omega) (by omega)
      have hxp : (n.fields.map FT.cells)[i]? = some f.cells := by rw [List.getElem?_map, hx]; rfl
      have hl : (rA iPV ((n.fields.map (·.type)).take i)).length = i := by rw [rA_len]; simp; omega
      have hr : rA iPV ((n.fields.map (·.type)).take i) ++ [[.c (.v (.int .i64 f.type))]] = rA iPV ((n.fields.map (·.type)).take (i + 1)) := by
        rw [List.take_add_one, List.getElem?_map, hx]
        exact rA_one iPV _ f.type
      have hl2 : (rA iPV ((n.fields.map (·.type)).take (i + 1))).length = i + 1 := by rw [rA_len]; simp; omega
      refine walkGF (And.intro hxp (And.intro @fcells_mk (And.intro @len_cells (And.intro @take_cells (And.intro @take_cellsC (And.intro hl (And.intro hr hw))))))) ?_
      refine .next ⟨i + 1, by omega⟩ ?_ (by simp only []; omega)
      simp only [hl2, rA_sc, Weak, eq_self, used_is, sc_any, sc_c, sc_pp, sc_ref, sc_row, sc_agg, sc_fn, ScL, some_imp, List.forall_mem_map, go_sem, Int.reduceBEq, Int.reduceLE, Int.reduceLT, Int.reduceNeg, Nat.reduceAdd, Nat.reduceEqDiff, Nat.reduceLT, Nat.reduceLeDiff, Nat.reduceMul, Nat.reduceSub, reduceCtorEq, ↓reduceIte]
      exact ⟨cI (by omega), Nat.le_refl _⟩
    · have hie : i = n.fields.length := by simp at hc; omega
      have htk : (n.fields.map (·.type)).take i = n.fields.map (·.type) := List.take_of_length_le (by simp; omega)
      rw [htk]
      refine walkGF (hie) ?_
      refine ⟨by first | exact .inr rfl | exact .inl rfl, ?_⟩; rw [Tryz.results49]; simp only [resOk, resV, go_sem, simprocAttr]
      apply frz_rA (f := iPV) (l := n.fields.map (·.type)) (T := 3)
      · rfl
      · simp [hie]
      · rfl
      · simp [iPV]
  by_cases h11 : n.kind = 11
  · rw [if_neg h9, if_pos (.inl h11)] at hL
    subst hL
    rw [h11]
    refine walkB ?_
    refine ⟨by first | exact .inr rfl | exact .inl rfl, ?_⟩; rw [Tryz.results49]; simp only [resOk, resV, go_sem, simprocAttr]
    exact frz_rA (f := iPV) (l := [n.items]) rfl rfl rfl (by simp [iPV])
  by_cases h12 : n.kind = 12
  · rw [if_neg h9, if_pos (.inr h12)] at hL
    subst hL
    rw [h12]
    refine walkB ?_
    refine ⟨by first | exact .inr rfl | exact .inl rfl, ?_⟩; rw [Tryz.results49]; simp only [resOk, resV, go_sem, simprocAttr]
    exact frz_rA (f := iPV) (l := [n.items]) rfl rfl rfl (by simp [iPV])
  by_cases h13 : n.kind = 13
  · rw [if_neg h9, if_neg (by simp [h11, h12]), if_pos h13] at hL
    subst hL
    rw [h13]
    refine walkB ?_
    refine ⟨by first | exact .inr rfl | exact .inl rfl, ?_⟩; rw [Tryz.results49]; simp only [resOk, resV, go_sem, simprocAttr]
    refine frz_rA (f := iPV) (l := n.branches) (T := 3) ?_ ?_ rfl (by simp [iPV])
    · simp [upd_at, rA_pv]
    · simp
  · rw [if_neg h9, if_neg (by simp [h11, h12]), if_neg h13] at hL
    subst hL
    have e9 : (n.kind == 9) = false := by simpa using h9
    have e11 : (n.kind == 11) = false := by simpa using h11
    have e12 : (n.kind == 12) = false := by simpa using h12
    have e13 : (n.kind == 13) = false := by simpa using h13
    refine walkBF (And.intro e9 (And.intro e11 (And.intro e12 e13))) ?_
    refine ⟨by first | exact .inr rfl | exact .inl rfl, ?_⟩; rw [Tryz.results49]; simp only [resOk, resV, go_sem, simprocAttr]
    exact .nil _

theorem bareM_eq (n : NT) : bareM n = (!(if namedK n.kind = true then false else (!(n.name == []) || decide ((n.aliases.length : Int) > 0))) && (!(if n.kind == 9 then false else decide ((n.fields.length : Int) > 0)) &&
    (!(if n.kind == 10 then false else (decide ((n.symbols.length : Int) > 0) || n.has || !(n.dflt == []))) && (!(if n.kind == 14 then false else n.size != 0) && (!(if (n.kind == 11) = true ∨ (n.kind == 12) = true then false else n.items != 0) && !(if n.kind == 13 then false else decide ((n.branches.length : Int) > 0))))))) := by
  have e0 : ∀ l : List UInt8, l.isEmpty = (l == []) := fun l => by cases l <;> rfl
  have e1 : ∀ {α : Type} (l : List α), l.isEmpty = !decide ((l.length : Int) > 0) := fun l => by
    cases l with
    | nil => rfl
    | cons x l => simp
  unfold bareM
  rw [e0 n.name, e0 n.dflt, e1 n.aliases, e1 n.fields, e1 n.symbols, e1 n.branches]
  cases namedK n.kind <;> cases (n.kind == 9) <;> cases (n.kind == 10) <;> cases (n.kind == 14) <;> cases (n.kind == 11) <;> cases (n.kind == 12) <;> cases (n.kind == 13) <;> simp [bne, Bool.and_assoc]
set_option maxRecDepth 100000 in
set_option maxHeartbeats 1600000 in
theorem bare_told (n : NT) : Told Tryz.prog 163 [n.av] (.c (.v (.bool (bareM n)))) := by
  obtain ⟨V, hV⟩ : ∃ V, V = bareM n := ⟨_, rfl⟩
  rw [← hV]
  rw [bareM_eq] at hV
  have hN := named_told n.kind
  have hE : (⟨#[]⟩ : ByteArray).toList = [] := str_toList []
  rw [NT.av_eq, ncells_mk]
  refine VC.told ent_163 Tryz.func163 rfl Tryz.ntmps163 (by simp) (by first | rfl | simp [AV.pureB, AV.pureL, pureL_c, pures]) (by first | rfl | simp [AV.pureB, AV.pureL, pureL_c, pures]) fun hb => ?_
  clear hb
  refine walkGF (And.intro @str_toList hE) ?_
  obtain ⟨p1, hp1⟩ : ∃ p : Bool, p = (!(n.name == []) || decide ((n.aliases.length : Int) > 0)) := ⟨_, rfl⟩
  obtain ⟨p2, hp2⟩ : ∃ p : Bool, p = decide ((n.fields.length : Int) > 0) := ⟨_, rfl⟩
  obtain ⟨p3, hp3⟩ : ∃ p : Bool, p = (decide ((n.symbols.length : Int) > 0) || n.has || !(n.dflt == [])) := ⟨_, rfl⟩
  obtain ⟨p4, hp4⟩ : ∃ p : Bool, p = (n.size != 0) := ⟨_, rfl⟩
  obtain ⟨p5, hp5⟩ : ∃ p : Bool, p = (n.items != 0) := ⟨_, rfl⟩
  obtain ⟨p6, hp6⟩ : ∃ p : Bool, p = decide ((n.branches.length : Int) > 0) := ⟨_, rfl⟩
  rw [← hp1, ← hp2, ← hp3, ← hp4, ← hp5, ← hp6] at hV ⊢
  clear hp1 hp2 hp3 hp4 hp5 hp6
  refine walkC (hN) ?_
  by_cases h9 : n.kind = 9
  · rw [h9] at hV ⊢
    have hv : V = (!p3 && !p4 && !p5 && !p6) := by rw [hV]; simp [namedK, Bool.and_assoc]
    clear hV
    have hn : namedK 9 = true := rfl
    refine walkBF (hn) ?_
    refine ⟨by first | exact .inr rfl | exact .inl rfl, ?_⟩; rw [Tryz.results163]; simp only [resOk, resV, go_sem, simprocAttr]
    refine frz_c ?_
    rw [hv]
    try simp [Bool.and_assoc]
  by_cases h10 : n.kind = 10
  · rw [h10] at hV ⊢
    have hv : V = (!p2 && !p4 && !p5 && !p6) := by rw [hV]; simp [namedK, Bool.and_assoc]
    clear hV
    have hn : namedK 10 = true := rfl
    refine walkBF (hn) ?_
    refine ⟨by first | exact .inr rfl | exact .inl rfl, ?_⟩; rw [Tryz.results163]; simp only [resOk, resV, go_sem, simprocAttr]
    refine frz_c ?_
    rw [hv]
    try simp [Bool.and_assoc]
  by_cases h14 : n.kind = 14
  · rw [h14] at hV ⊢
    have hv : V = (!p2 && !p3 && !p5 && !p6) := by rw [hV]; simp [namedK, Bool.and_assoc]
    clear hV
    have hn : namedK 14 = true := rfl
    refine walkBF (hn) ?_
    refine ⟨by first | exact .inr rfl | exact .inl rfl, ?_⟩; rw [Tryz.results163]; simp only [resOk, resV, go_sem, simprocAttr]
    refine frz_c ?_
    rw [hv]
    try simp [Bool.and_assoc]
  by_cases h11 : n.kind = 11
  · rw [h11] at hV ⊢
    have hv : V = (!p1 && !p2 && !p3 && !p4 && !p6) := by rw [hV]; simp [namedK, Bool.and_assoc]
    clear hV
    have hn : namedK 11 = false := rfl
    refine walkBF (hn) ?_
    refine ⟨by first | exact .inr rfl | exact .inl rfl, ?_⟩; rw [Tryz.results163]; simp only [resOk, resV, go_sem, simprocAttr]
    refine frz_c ?_
    rw [hv]
    try simp [Bool.and_assoc]
  by_cases h12 : n.kind = 12
  · rw [h12] at hV ⊢
    have hv : V = (!p1 && !p2 && !p3 && !p4 && !p6) := by rw [hV]; simp [namedK, Bool.and_assoc]
    clear hV
    have hn : namedK 12 = false := rfl
    refine walkBF (hn) ?_
    refine ⟨by first | exact .inr rfl | exact .inl rfl, ?_⟩; rw [Tryz.results163]; simp only [resOk, resV, go_sem, simprocAttr]
    refine frz_c ?_
    rw [hv]
    try simp [Bool.and_assoc]
  by_cases h13 : n.kind = 13
  · rw [h13] at hV ⊢
    have hv : V = (!p1 && !p2 && !p3 && !p4 && !p5) := by rw [hV]; simp [namedK, Bool.and_assoc]
    clear hV
    have hn : namedK 13 = false := rfl
    refine walkBF (hn) ?_
    refine ⟨by first | exact .inr rfl | exact .inl rfl, ?_⟩; rw [Tryz.results163]; simp only [resOk, resV, go_sem, simprocAttr]
    refine frz_c ?_
    rw [hv]
    try simp [Bool.and_assoc]
  · have e9 : (n.kind == 9) = false := by simpa using h9
    have e10 : (n.kind == 10) = false := by simpa using h10
    have e14 : (n.kind == 14) = false := by simpa using h14
    have e11 : (n.kind == 11) = false := by simpa using h11
    have e12 : (n.kind == 12) = false := by simpa using h12
    have e13 : (n.kind == 13) = false := by simpa using h13
    have hn : namedK n.kind = false := by simp [namedK, h9, h10, h14]
    have hv : V = (!p1 && !p2 && !p3 && !p4 && !p5 && !p6) := by rw [hV, hn]; simp [h9, h10, h14, h11, h12, h13, Bool.and_assoc]
    clear hV
    rw [hn]
    refine walkBF (And.intro e9 (And.intro e10 (And.intro e14 (And.intro e11 (And.intro e12 e13))))) ?_
    refine ⟨by first | exact .inr rfl | exact .inl rfl, ?_⟩; rw [Tryz.results163]; simp only [resOk, resV, go_sem, simprocAttr]
    refine frz_c ?_
    rw [hv]

theorem view_jzero (h : Nat → Option Blkd) : View h (.agg [.c (.v (.int .i64 0)), .c (.v (.int .i64 0)), .c (.v (.string ⟨#[]⟩)), .c (.v (.slice none 0 0)), .c (.v (.slice none 0 0))]) jzero.av := by
  refine .agg rfl fun k x y h1 h2 => ?_
  match k with
  | 0 => obtain rfl := Option.some.inj h1; obtain rfl := Option.some.inj h2; exact .same _
  | 1 => obtain rfl := Option.some.inj h1; obtain rfl := Option.some.inj h2; exact .same _
  | 2 => obtain rfl := Option.some.inj h1; obtain rfl := Option.some.inj h2; exact .same _
  | 3 => obtain rfl := Option.some.inj h1; obtain rfl := Option.some.inj h2; exact .nil 5
  | 4 => obtain rfl := Option.some.inj h1; obtain rfl := Option.some.inj h2; exact .nil 1
  | k + 5 => simp at h1
theorem fieldM_eq (f : FT) : fieldM f = !((!allM simpleM f.aliases || f.has && !jR f.dflt) || !f.has && !jeq f.dflt jzero) := by
  unfold fieldM
  cases f.has <;> simp
set_option maxRecDepth 100000 in
set_option maxHeartbeats 800000 in
theorem fields_told (l : List FT) (hl : l.length ≤ 1000000) (hs : ∀ f ∈ l, f.sm 1000000) : Told Tryz.prog 166 [.c (.sl 9 (l.map FT.cells))] (.c (.v (.bool (fieldsM l)))) := by
  obtain ⟨V, hV⟩ : ∃ V, V = fieldsM l := ⟨_, rfl⟩
  rw [← hV]
  refine VC.told ent_166 Tryz.func166 rfl Tryz.ntmps166 (by simp) (by first | rfl | simp [AV.pureB, AV.pureL, pureL_c, pures]) (by first | rfl | simp [AV.pureB, AV.pureL, pureL_c, pures]) fun hb => ?_
  clear hb
  refine walkG ?_
  refine VC.nil 3 9 1 (by rfl) (by trivial) (by rfl) ?_
  refine VC.loop (ι := {i : Nat // i ≤ l.length ∧ ∀ (j : Nat) (f : FT), j < i → l[j]? = some f → fieldM f = true}) (fun q => [(0, .c (.sl 9 (l.map FT.cells))), (3, .row 40 q.1), (6, .c (.sl 9 (l.map FT.cells))), (7, .c (.v (.int .i64 (l.length : Int)))), (8, .c (.v (.int .i64 (q.1 : Int))))])
    (fun q => [(40, ⟨true, 9, 1, rA sPV ((l.map (·.name)).take q.1)⟩)]) 800 (fun q => l.length - q.1) ⟨0, Nat.zero_le _, fun j f h => by omega⟩ ?_ ?_
  · simp only [rA_len, rA_sc, rA_nil, Weak, eq_self, used_is, sc_any, sc_c, sc_pp, sc_ref, sc_row, sc_agg, sc_fn, ScL, some_imp, List.forall_mem_map, go_sem, Int.reduceBEq, Int.reduceLE, Int.reduceLT, Int.reduceNeg, Nat.reduceAdd, Nat.reduceEqDiff, Nat.reduceLT, Nat.reduceLeDiff, Nat.reduceMul, Nat.reduceSub, reduceCtorEq, ↓reduceIte]
  rintro ⟨i, hi, ht⟩
  simp only []
  refine walkG ?_
  refine VC.cond (by rfl) (by trivial) (fun hc => ?_) (fun hc => ?_)
  · have hlt : i < l.length := by simp at hc; omega
    obtain ⟨f, hx⟩ : ∃ f, l[i]? = some f := ⟨l[i], List.getElem?_eq_getElem hlt⟩
    have hw : IntKind.i64.wrap ((i : Int) + 1) = (i : Int) + 1 := wrap64_id (by omega) (by omega)
    have hxp : (l.map FT.cells)[i]? = some f.cells := by rw [List.getElem?_map, hx]; rfl
    have hln : (rA sPV ((l.map (·.name)).take i)).length = i := by rw [rA_len]; simp; omega
    have hr : rA sPV ((l.map (·.name)).take i) ++ [[.c (.v (.string (str f.name)))]] = rA sPV ((l.map (·.name)).take (i + 1)) := by
      rw [List.take_add_one, List.getElem?_map, hx]
      exact rA_one sPV _ f.name
    have hl2 : (rA sPV ((l.map (·.name)).take (i + 1))).length = i + 1 := by rw [rA_len]; simp; omega
    obtain ⟨hn1, ha1, ha2, hd⟩ := hs f (List.mem_of_getElem? hx)
    have hA := all_told (g := 168) (rule := simpleM) f.aliases fun x hx => simple_told x (by have := ha2 x hx; omega)
    have hR := jRight_told f.dflt (sm_le (by omega) _ hd)
    have hS := same_told _ f.dflt jzero (Nat.le_refl _)
    simp only [JT.av] at hR
    have hM := fieldM_eq f
    obtain ⟨b1, hb1⟩ : ∃ b, b = allM simpleM f.aliases := ⟨_, rfl⟩
    obtain ⟨b2, hb2⟩ : ∃ b, b = jR f.dflt := ⟨_, rfl⟩
    obtain ⟨b3, hb3⟩ : ∃ b, b = jeq f.dflt jzero := ⟨_, rfl⟩
    rw [← hb1, ← hb2, ← hb3] at hM
    rw [← hb1] at hA
    rw [← hb2] at hR
    rw [← hb3] at hS
    replace hM := Lib.hid hM
    clear hb1 hb2 hb3 ha1 ha2 hd
    refine walkGF (And.intro hxp (And.intro @fcells_mk (And.intro @len_cells (And.intro @take_cells (And.intro @take_cellsC (And.intro hln hr)))))) ?_
    refine walkC (hA) ?_
    refine walkGF (And.intro @fcells_mk (And.intro @len_cells (And.intro @take_cells @take_cellsC))) ?_
    refine walkDF (@pureL_c) (hR) ?_
    refine walkGF (And.intro @fcells_mk (And.intro @len_cells (And.intro @take_cells @take_cellsC))) ?_
    (refine AO.step fun K hK => ?_; simp only [go_sem, Int.reduceBEq, Int.reduceLE, Int.reduceLT, Int.reduceNeg, Nat.reduceAdd, Nat.reduceEqDiff, Nat.reduceLT, Nat.reduceLeDiff, Nat.reduceMul, Nat.reduceSub, reduceCtorEq, ↓reduceIte]; (first | refine gsel_go ?_ | skip))
    refine .inr (.inl ⟨.c (.v (.bool b3)), [f.dflt.av, jzero.av], [], fun hg => ⟨hg, by simp [AV.pureL, AV.pureB, JT.av, pureL_c], rfl, fun k x z h5 h6 => ?_, rfl, hS⟩, hK _ _ _ ?_⟩)
    · match k with
      | 0 => obtain rfl := Option.some.inj h5; obtain rfl := Option.some.inj h6; exact .same _
      | 1 => obtain rfl := Option.some.inj h5; obtain rfl := Option.some.inj h6; exact view_jzero _
      | k + 2 => simp at h5
    clear hK K
    refine walkG ?_
    refine VC.cond (by rfl) (by trivial) (fun hc2 => ?_) (fun hc2 => ?_)
    · have hf : V = false := by
        have : fieldM f = false := by
          rw [hM.out, hc2]
          rfl
        have h2 : l.all fieldM = false := by
          rw [List.all_eq_false]
          exact ⟨f, List.mem_of_getElem? hx, by simp [this]⟩
        rw [hV, fieldsM, h2]
        rfl
      subst hf
      refine walkG ?_
      refine ⟨by first | exact .inr rfl | exact .inl rfl, ?_⟩; rw [Tryz.results166]; simp only [resOk, resV, go_sem, simprocAttr]
      exact .c _
    · have hft : fieldM f = true := by
        rw [hM.out, hc2]
        rfl
      refine walkGF (hw) ?_
      refine .next ⟨i + 1, by omega, ?_⟩ ?_ (by simp only []; omega)
      · intro j g hj hg
        by_cases hji : j < i
        · exact ht j g hji hg
        · obtain rfl : j = i := by omega
          rw [hx] at hg
          obtain rfl := Option.some.inj hg
          exact hft
      simp only [hl2, rA_sc, Weak, eq_self, used_is, sc_any, sc_c, sc_pp, sc_ref, sc_row, sc_agg, sc_fn, ScL, some_imp, List.forall_mem_map, go_sem, Int.reduceBEq, Int.reduceLE, Int.reduceLT, Int.reduceNeg, Nat.reduceAdd, Nat.reduceEqDiff, Nat.reduceLT, Nat.reduceLeDiff, Nat.reduceMul, Nat.reduceSub, reduceCtorEq, ↓reduceIte]
      exact ⟨cI (by omega), Nat.le_refl _⟩
  · have hie : i = l.length := by simp at hc; omega
    have htk : (l.map (·.name)).take i = l.map (·.name) := List.take_of_length_le (by simp; omega)
    have hall : l.all fieldM = true := by
      rw [List.all_eq_true]
      intro f hf
      obtain ⟨j, hj⟩ := List.getElem?_of_mem hf
      exact ht j f (by have := (List.getElem?_eq_some_iff.1 hj).1; omega) hj
    have hD := different_told (g := 168) (rule := simpleM) (l.map (·.name)) (by simp; omega) fun x hx => by
      obtain ⟨f, hf, rfl⟩ := List.mem_map.1 hx
      exact simple_told f.name (by have := (hs f hf).1; omega)
    have hv : V = (decide ((l.length : Int) ≤ 40) && diffM simpleM (l.map (·.name))) := by
      rw [hV, fieldsM, hall, Bool.true_and]
      congr 1
      simp
      omega
    clear hV
    replace hv := Lib.hid hv
    rw [htk]
    have hrl : (rA sPV (l.map (·.name))).length = i := by rw [rA_len]; simp; omega
    refine walkGF (hrl) ?_
    (refine AO.step fun K hK => ?_; simp only [go_sem, Int.reduceBEq, Int.reduceLE, Int.reduceLT, Int.reduceNeg, Nat.reduceAdd, Nat.reduceEqDiff, Nat.reduceLT, Nat.reduceLeDiff, Nat.reduceMul, Nat.reduceSub, reduceCtorEq, ↓reduceIte, hrl]; (first | refine gsel_go ?_ | skip))
    refine .inr (.inl ⟨.c (.v (.bool (diffM simpleM (l.map (·.name))))), [.c (.sl 1 ((l.map (·.name)).map sPV)), .fn (.func 168) [] []], [40], fun hg => ⟨hg, by simp [AV.pureL, AV.pureB], rfl, fun k x z h5 h6 => ?_, rfl, hD⟩, hK _ _ _ ?_⟩)
    · match k with
      | 0 =>
        obtain rfl := Option.some.inj h5
        obtain rfl := Option.some.inj h6
        exact View.row (B := ⟨true, 9, 1, rA sPV (l.map fun f : FT => f.name)⟩) (es := (l.map fun f : FT => f.name).map sPV) rfl rfl hrl (rA_pv _ _)
      | 1 => obtain rfl := Option.some.inj h5; obtain rfl := Option.some.inj h6; exact .same _
      | k + 2 => simp at h5
    clear hK K
    refine walkG ?_
    refine ⟨by first | exact .inr rfl | exact .inl rfl, ?_⟩; rw [Tryz.results166]; simp only [resOk, resV, go_sem, simprocAttr]
    rw [hv.out]
    exact .c _
end
end Go.Proofs.YtllnlmchjljhlaaGreatDoor
