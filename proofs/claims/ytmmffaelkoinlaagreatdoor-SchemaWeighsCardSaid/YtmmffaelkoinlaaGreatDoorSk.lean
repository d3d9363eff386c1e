/- schema: union, as a contract. -/
import Derived.Test.YtmmffaelkoinlaaGreatDoorSh
import Derived.Test.YtmmffaelkoinlaaGreatDoorIxI
namespace Go.Proofs.YtmmffaelkoinlaaGreatDoor
open Go.RowKit
set_option linter.unusedVariables false
set_option linter.unusedSimpArgs false
attribute [local go_sem] opx opE ev okx gcond bnd okO AV.get AV.okb cAV upd_at putd_some putd_none wrs_nil wrs_cons look_nil look_cons st argT_at bpick_and bpick_or bpick_true bpick_false binV binI binS binVOk binOk isShift binSOk unV unVOk loadV loadP cellsA zeroA Blkd.len setE grown moreA moreR moreOk eqRes pv fillA fillE putSeg AV.cellish AV.pureL AV.pureB lentL_is ex_some AV.ren AV.renL renL_c Blkd.ren rho wrM renN lentOk rhoE keepM endOk tyA_2 tyA_3 tyA_4 tyA_5 tyA_6 tyA_7 tyA_8 tyA_9 tyA_10 tyA_11 tyA_12 tyA_13 tyA_14 tyA_15 tyA_16 tyA_17 tyA_18 tyA_19 tyA_21 tyA_22 tyA_23 tyA_24 tyA_28 tyA_29 tyA_30 tyA_31 tyA_32 tyA_34 tyA_35 tyA_36 tyA_37 tyA_38 tyA_42 tyA_47 tyA_48 tyA_49 tyA_50 tyA_51 tyA_81 tyA_85 tyA_89 tyA_90 tyA_91 tyA_98 tyA_110 tyA_111 tyA_112 tyA_113 tyA_114 tyA_119 tyA_130 tyA_160 tyA_163 tyA_165 tyA_171 tyA_181 tyA_185 tyA_187 tyA_191 tyA_192 tyA_193 tyA_194 tyA_195 tyA_197 tyA_198 tyA_200 tyA_201 tyA_202 tyA_205 Option.map_some Option.map_none Option.getD_some Option.getD_none Option.bind_some Option.bind_none List.getElem?_cons_zero List.getElem?_cons_succ List.getElem?_nil List.getElem?_toArray List.length_cons List.length_nil List.length_map List.forall_mem_map List.map_cons List.map_nil List.drop_zero List.drop_succ_cons List.drop_nil List.take_zero List.take_succ_cons List.take_nil List.mem_cons List.not_mem_nil or_false forall_eq_or_imp forall_eq List.set_cons_zero List.set_cons_succ List.cons_append List.nil_append List.append_nil List.foldl_cons List.foldl_nil List.replicate_succ List.replicate_zero List.all_cons List.all_nil if_true if_false Bool.false_eq_true ne_eq not_false_eq_true not_true_eq_false true_and and_true and_self true_implies imp_self implies_true forall_const beq_self_eq_true Bool.and_true Bool.true_and Bool.and_false Bool.false_and Bool.or_true Bool.true_or Bool.or_false Bool.false_or Bool.not_true Bool.not_false Bool.not_eq_eq_eq_not intKindOf Value.oneCell' Int.toNat_natCast beq_true beq_false Bool.not_eq_true false_implies false_or true_or or_true Nat.zero_add Nat.add_zero decide_true decide_false Int.cast_ofNat_Int Int.toNat_zero Int.toNat_one eq_self

theorem kindAt_of {ns : List NT} {j : Nat} {n : NT} (h : ns[j]? = some n) : kindAt ns j = n.kind := by rw [kindAt, h]
set_option maxRecDepth 100000 in
set_option maxHeartbeats 800000 in
theorem union1_told (s : ST) (j : Nat) (k kind : Int) (hj : j < s.nodes.length) :
    Told Tryz.prog 96 [.c (.v (.int .i64 (j : Int))), .pp [.v (.int .i64 k)], .pp [.v (.int .i64 kind)], .pp s.cells] (.c (.v (.bool ((j : Int) == k || (!namedK kind && kindAt s.nodes j == kind))))) := by
  obtain ⟨n, hn⟩ : ∃ n, s.nodes[j]? = some n := ⟨s.nodes[j], List.getElem?_eq_getElem hj⟩
  have hnp : (s.nodes.map NT.cells)[j]? = some n.cells := by rw [List.getElem?_map, hn]; rfl
  rw [kindAt_of hn]
  have hN := named_told kind
  rw [scells_mk]
  refine VC.told ent_96 Tryz.func96 rfl Tryz.ntmps96 (by simp) (by first | rfl | simp [AV.pureB, AV.pureL, pureL_c, pures]) (by first | rfl | simp [AV.pureB, AV.pureL, pureL_c, pures]) fun hb => ?_
  clear hb
  refine walkG ?_
  refine walkD (hN) ?_
  refine walkGF (And.intro hnp @ncells_mk) ?_
  refine ⟨by first | exact .inr rfl | exact .inl rfl, ?_⟩; rw [Tryz.results96]; simp only [resOk, resV, go_sem, Int.reduceBEq, Int.reduceLE, Int.reduceLT, Int.reduceNeg, Nat.reduceAdd, Nat.reduceEqDiff, Nat.reduceLT, Nat.reduceLeDiff, Nat.reduceMul, Nat.reduceSub, reduceCtorEq, ↓reduceIte]
  exact .c _
theorem drop_at {α : Type} {l : List α} {i : Nat} {x : α} (h : l[i]? = some x) : l.drop i = x :: l.drop (i + 1) := by
  obtain ⟨hlt, rfl⟩ := List.getElem?_eq_some_iff.1 h
  exact List.drop_eq_getElem_cons hlt
set_option maxRecDepth 100000 in
set_option maxHeartbeats 800000 in
theorem union_told (s : ST) (l : List Int) (hl : ∀ k ∈ l, 0 ≤ k ∧ k < (s.nodes.length : Int)) (hlen : l.length ≤ 1000000) :
    Told Tryz.prog 65 [s.av, .c (.sl 1 (l.map iPV))] (.c (.v (.bool (unionM s.nodes l)))) := by
  obtain ⟨V, hV⟩ : ∃ V, V = unionM s.nodes l := ⟨_, rfl⟩
  rw [← hV]
  unfold unionM at hV
  rw [ST.av_eq, scells_mk]
  refine VC.told ent_65 Tryz.func65 rfl Tryz.ntmps65 (by simp) (by first | rfl | simp [AV.pureB, AV.pureL, pureL_c, pures]) (by first | rfl | simp [AV.pureB, AV.pureL, pureL_c, pures]) fun hb => ?_
  clear hb
  refine walkG ?_
  refine VC.cond (by rfl) (by trivial) (fun hc => ?_) (fun hc => ?_)
  · have hf : V = false := by
      have : ¬ (1 ≤ l.length ∧ l.length ≤ 10) := by simp at hc; omega
      rw [hV]
      by_cases h1 : 1 ≤ l.length
      · have : ¬ l.length ≤ 10 := fun h => this ⟨h1, h⟩
        simp [this]
      · simp [h1]
    subst hf
    refine walkG ?_
    refine ⟨by first | exact .inr rfl | exact .inl rfl, ?_⟩; rw [Tryz.results65]; simp only [resOk, resV, go_sem, Int.reduceBEq, Int.reduceLE, Int.reduceLT, Int.reduceNeg, Nat.reduceAdd, Nat.reduceEqDiff, Nat.reduceLT, Nat.reduceLeDiff, Nat.reduceMul, Nat.reduceSub, reduceCtorEq, ↓reduceIte]
    exact .c _
  have hv : branchesM s.nodes [] l = V := by
    have h1 : 1 ≤ l.length ∧ l.length ≤ 10 := by simp at hc; omega
    rw [hV]
    simp [h1.1, h1.2]
  clear hV hc
  refine VC.frz [0] [(1, .c (.sl 1 (l.map iPV))), (2, .pp [.sl 10 (s.nodes.map NT.cells), .v (.int .i64 s.root)])] [] 400 ?_ ?_
  · simp only [WeakF, used_is, sc_any, sc_c, sc_pp, sc_ref, sc_row, sc_agg, sc_fn, ScL, some_imp, List.forall_mem_map, go_sem, Int.reduceBEq, Int.reduceLE, Int.reduceLT, Int.reduceNeg, Nat.reduceAdd, Nat.reduceEqDiff, Nat.reduceLT, Nat.reduceLeDiff, Nat.reduceMul, Nat.reduceSub, reduceCtorEq, ↓reduceIte]
    exact ⟨.same _, .ref (es := [.sl 10 (s.nodes.map NT.cells), .v (.int .i64 s.root)]) (by simp) rfl rfl rfl rfl⟩
  refine walkG ?_
  refine VC.loop (ι := {i : Nat // i ≤ l.length ∧ branchesM s.nodes (l.take i) (l.drop i) = V})
    (fun q => [(1, .c (.sl 1 (l.map iPV))), (2, .pp [.sl 10 (s.nodes.map NT.cells), .v (.int .i64 s.root)]), (16, .c (.sl 1 (l.map iPV))), (17, .c (.v (.int .i64 (l.length : Int)))), (18, .c (.v (.int .i64 (q.1 : Int))))]) (fun q => []) 800 (fun q => l.length - q.1) ⟨0, Nat.zero_le _, by simpa using hv⟩ ?_ ?_
  · simp only [Weak, eq_self, used_is, sc_any, sc_c, sc_pp, sc_ref, sc_row, sc_agg, sc_fn, ScL, some_imp, List.forall_mem_map, go_sem, Int.reduceBEq, Int.reduceLE, Int.reduceLT, Int.reduceNeg, Nat.reduceAdd, Nat.reduceEqDiff, Nat.reduceLT, Nat.reduceLeDiff, Nat.reduceMul, Nat.reduceSub, reduceCtorEq, ↓reduceIte]
  clear hv
  rintro ⟨i, hi, hv⟩
  simp only []
  refine walkG ?_
  refine VC.cond (by rfl) (by trivial) (fun hc => ?_) (fun hc => ?_)
  · have hlt : i < l.length := by simp at hc; omega
    obtain ⟨x, hx⟩ : ∃ x, l[i]? = some x := ⟨l[i], List.getElem?_eq_getElem hlt⟩
    obtain ⟨h0, h1⟩ := hl x (List.mem_of_getElem? hx)
    obtain ⟨p, rfl⟩ : ∃ p : Nat, x = (p : Int) := ⟨x.toNat, by omega⟩
    have hp : p < s.nodes.length := by omega
    obtain ⟨n, hn⟩ : ∃ n, s.nodes[p]? = some n := ⟨s.nodes[p], List.getElem?_eq_getElem hp⟩
    have hnp : (s.nodes.map NT.cells)[p]? = some n.cells := by rw [List.getElem?_map, hn]; rfl
    have hw : IntKind.i64.wrap ((i : Int) + 1) = (i : Int) + 1 := wrap64_id (by omega) (by omega)
    have hxp : (l.map iPV)[i]? = some (iPV (p : Int)) := by rw [List.getElem?_map, hx]; rfl
    have htk : (l.map iPV).take i = (l.take i).map iPV := by rw [List.map_take]
    have hF := cnfI_told (g := 96) (fs := []) (cs := [.pp [.v (.int .i64 (p : Int))], .pp [.v (.int .i64 n.kind)], .pp s.cells]) rfl rfl (l.take i) (fun m => m == (p : Int) || (!namedK n.kind && kindAt s.nodes m.toNat == n.kind)) fun m hm => by
      obtain ⟨h2, h3⟩ := hl m (List.mem_of_mem_take hm)
      obtain ⟨j, rfl⟩ : ∃ j : Nat, m = (j : Int) := ⟨m.toNat, by omega⟩
      have := union1_told s j (p : Int) n.kind (by omega)
      rw [Int.toNat_natCast]
      exact this
    rw [drop_at hx, branchesM, branchM, Int.toNat_natCast, kindAt_of hn] at hv
    obtain ⟨b, hb⟩ : ∃ b : Bool, b = (l.take i).any fun m => m == (p : Int) || (!namedK n.kind && kindAt s.nodes m.toNat == n.kind) := ⟨_, rfl⟩
    rw [← hb] at hF hv
    refine walkGF (And.intro hxp (And.intro @iPV_eq (And.intro hnp @ncells_mk))) ?_
    (refine AO.step fun K hK => ?_; simp only [go_sem, Int.reduceBEq, Int.reduceLE, Int.reduceLT, Int.reduceNeg, Nat.reduceAdd, Nat.reduceEqDiff, Nat.reduceLT, Nat.reduceLeDiff, Nat.reduceMul, Nat.reduceSub, reduceCtorEq, ↓reduceIte, htk]; (first | refine gsel_go ?_ | skip))
    refine .inr (.inl ⟨.c (.v (.bool b)), [.c (.sl 1 ((l.take i).map iPV)), .fn (.func 96) [] [.pp [.v (.int .i64 (p : Int))], .pp [.v (.int .i64 n.kind)], .pp s.cells]], [832, 904], fun hg => ⟨hg, by rfl, rfl, fun k x z h5 h6 => ?_, rfl, hF⟩, hK _ _ _ ?_⟩)
    · match k with
      | 0 => obtain rfl := Option.some.inj h5; obtain rfl := Option.some.inj h6; exact .same _
      | 1 =>
        obtain rfl := Option.some.inj h5
        obtain rfl := Option.some.inj h6
        refine .fn rfl (by simp) rfl fun k x z h7 h8 => ?_
        match k with
        | 0 => obtain rfl := Option.some.inj h7; obtain rfl := Option.some.inj h8; exact View.ref (es := [.v (.int .i64 (p : Int))]) rfl rfl rfl rfl
        | 1 => obtain rfl := Option.some.inj h7; obtain rfl := Option.some.inj h8; exact View.ref (es := [.v (.int .i64 n.kind)]) rfl rfl rfl rfl
        | 2 => obtain rfl := Option.some.inj h7; obtain rfl := Option.some.inj h8; exact .same _
        | k + 3 => simp at h7
      | k + 2 => simp at h5
    clear hK K
    refine walkG ?_
    refine VC.cond (by rfl) (by trivial) (fun hc2 => ?_) (fun hc2 => ?_)
    · have hf : V = false := by
        rw [← hv]
        have : (n.kind != 13 && !b) = false := by
          cases b <;> simp at hc2 ⊢
          exact hc2
        rw [this]
        rfl
      subst hf
      refine walkG ?_
      refine ⟨by first | exact .inr rfl | exact .inl rfl, ?_⟩; rw [Tryz.results65]; simp only [resOk, resV, go_sem, Int.reduceBEq, Int.reduceLE, Int.reduceLT, Int.reduceNeg, Nat.reduceAdd, Nat.reduceEqDiff, Nat.reduceLT, Nat.reduceLeDiff, Nat.reduceMul, Nat.reduceSub, reduceCtorEq, ↓reduceIte]
      exact .c _
    · refine walkGF (hw) ?_
      refine .next ⟨i + 1, by omega, ?_⟩ ?_ (by simp only []; omega)
      · have : (n.kind != 13 && !b) = true := by
          cases b <;> simp at hc2 ⊢
          exact hc2
        rw [this, Bool.true_and] at hv
        rw [List.take_add_one, hx]
        exact hv
      simp only [Weak, eq_self, used_is, sc_any, sc_c, sc_pp, sc_ref, sc_row, sc_agg, sc_fn, ScL, some_imp, List.forall_mem_map, go_sem, Int.reduceBEq, Int.reduceLE, Int.reduceLT, Int.reduceNeg, Nat.reduceAdd, Nat.reduceEqDiff, Nat.reduceLT, Nat.reduceLeDiff, Nat.reduceMul, Nat.reduceSub, reduceCtorEq, ↓reduceIte]
      try exact cI (by omega)
  · have hie : i = l.length := by simp at hc; omega
    have hf : V = true := by
      rw [← hv, hie, List.drop_length, branchesM]
    subst hf
    refine walkG ?_
    refine ⟨by first | exact .inr rfl | exact .inl rfl, ?_⟩; rw [Tryz.results65]; simp only [resOk, resV, go_sem, Int.reduceBEq, Int.reduceLE, Int.reduceLT, Int.reduceNeg, Nat.reduceAdd, Nat.reduceEqDiff, Nat.reduceLT, Nat.reduceLeDiff, Nat.reduceMul, Nat.reduceSub, reduceCtorEq, ↓reduceIte]
    exact .c _

end Go.Proofs.YtmmffaelkoinlaaGreatDoor
