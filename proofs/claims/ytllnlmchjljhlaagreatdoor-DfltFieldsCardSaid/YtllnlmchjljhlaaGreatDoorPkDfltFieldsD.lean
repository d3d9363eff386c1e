/- Texts that lead to the law DfltFields, joined. -/
import Derived.Test.YtllnlmchjljhlaaGreatDoorPkDfltFieldsB
import Derived.Test.YtllnlmchjljhlaaGreatDoorPkDfltFieldsA
import Derived.Test.YtllnlmchjljhlaaGreatDoorPkDfltFieldsC
namespace Go.Proofs.YtllnlmchjljhlaaGreatDoor
open Go.RowKit
set_option linter.unusedVariables false
set_option linter.unusedSimpArgs false
section
attribute [local go_sem] opx opE ev okx gcond bnd okO AV.get AV.okb cAV upd_at putd_some putd_none wrs_nil wrs_cons look_nil look_cons st argT_at bpick_and bpick_or bpick_true bpick_false binV binI binS binVOk binOk isShift binSOk unV unVOk loadV loadP cellsA zeroA Blkd.len setE grown moreA moreR moreOk eqRes pv fillA fillE putSeg AV.cellish AV.pureL AV.pureB lentL_is ex_some AV.ren AV.renL renL_c Blkd.ren rho wrM renN lentOk rhoE keepM endOk tyA_2 tyA_3 tyA_4 tyA_5 tyA_6 tyA_7 tyA_8 tyA_9 tyA_10 tyA_11 tyA_12 tyA_13 tyA_14 tyA_15 tyA_16 tyA_17 tyA_18 tyA_19 tyA_21 tyA_22 tyA_23 tyA_24 tyA_29 tyA_30 tyA_31 tyA_32 tyA_33 tyA_34 tyA_35 tyA_36 tyA_37 tyA_38 tyA_39 tyA_40 tyA_41 tyA_42 tyA_43 tyA_49 tyA_85 tyA_89 tyA_99 tyA_100 tyA_101 tyA_105 tyA_106 tyA_107 tyA_108 tyA_109 tyA_111 tyA_112 tyA_113 tyA_114 tyA_123 tyA_126 tyA_127 tyA_128 tyA_129 tyA_130 tyA_153 tyA_163 tyA_164 tyA_165 tyA_179 tyA_185 tyA_191 tyA_192 tyA_193 tyA_194 tyA_195 tyA_196 tyA_209 tyA_213 tyA_214 tyA_215 tyA_241 tyA_248 tyA_274 tyA_275 tyA_276 tyA_292 tyA_294 tyA_302 tyA_307 tyA_315 tyA_319 tyA_321 tyA_324 tyA_325 tyA_326 tyA_327 tyA_328 tyA_329 tyA_330 tyA_332 tyA_333 Option.map_some Option.map_none Option.getD_some Option.getD_none Option.bind_some Option.bind_none List.getElem?_cons_zero List.getElem?_cons_succ List.getElem?_nil List.getElem?_toArray List.length_cons List.length_nil List.length_map List.forall_mem_map List.map_cons List.map_nil List.drop_zero List.drop_succ_cons List.drop_nil List.take_zero List.take_succ_cons List.take_nil List.mem_cons List.not_mem_nil or_false forall_eq_or_imp forall_eq List.set_cons_zero List.set_cons_succ List.cons_append List.nil_append List.append_nil List.foldl_cons List.foldl_nil List.replicate_succ List.replicate_zero List.all_cons List.all_nil if_true if_false Bool.false_eq_true ne_eq not_false_eq_true not_true_eq_false true_and and_true and_self true_implies imp_self implies_true forall_const beq_self_eq_true Bool.and_true Bool.true_and Bool.and_false Bool.false_and Bool.or_true Bool.true_or Bool.or_false Bool.false_or Bool.not_true Bool.not_false Bool.not_eq_eq_eq_not intKindOf Value.oneCell' Int.toNat_natCast beq_true beq_false Bool.not_eq_true false_implies false_or true_or or_true Nat.zero_add Nat.add_zero decide_true decide_false Int.cast_ofNat_Int Int.toNat_zero Int.toNat_one eq_self

set_option maxRecDepth 100000 in
set_option maxHeartbeats 400000 in
theorem ixfI_told {g : FuncId} {fs cs : List AV} (hp : AV.pureL fs = true) (hp' : AV.pureL cs = true) (l : List (Int)) (p : Int → Bool) (hk : ∀ x ∈ l, Told Tryz.prog g (fs ++ ([.c (.v (.int .i64 x))] ++ cs)) (.c (.v (.bool (p x))))) :
    Told Tryz.prog 254 [.c (.sl 1 (l.map iPV)), .fn (.func g) fs cs] (.c (.v (.int .i64 (idxP p l)))) := by
  refine VC.told ent_254 Tryz.func254 rfl Tryz.ntmps254 (by simp) (by simp [AV.pureB, AV.pureL, hp, hp']) rfl fun hb => ?_
  simp only [List.mem_cons, List.not_mem_nil, or_false, forall_eq_or_imp, forall_eq, abd_c, pbd_sl, List.length_map] at hb
  have h1 := hb.1.1
  clear hb
  refine walkG ?_
  refine VC.loop (ι := {i : Nat // i ≤ l.length ∧ ∀ j x, j < i → l[j]? = some x → p x = false}) (fun i => [(0, .c (.sl 1 (l.map iPV))), (1, .fn (.func g) fs cs), (7, .c (.v (.int .i64 l.length))), (8, .c (.v (.int .i64 i.1)))]) (fun _ => []) 0 (fun i => l.length - i.1) ⟨0, Nat.zero_le _, by intro j x hj; omega⟩ ?_ ?_
  · simp only [sc_pureL hp, sc_pureL hp', Weak, eq_self, used_is, sc_any, sc_c, sc_pp, sc_ref, sc_row, sc_agg, sc_fn, ScL, some_imp, List.forall_mem_map, go_sem, Int.reduceBEq, Int.reduceLE, Int.reduceLT, Int.reduceNeg, Nat.reduceAdd, Nat.reduceEqDiff, Nat.reduceLT, Nat.reduceLeDiff, Nat.reduceMul, Nat.reduceSub, reduceCtorEq, ↓reduceIte]
    all_goals rfl
  rintro ⟨i, hi, ht⟩
  refine walkG ?_
  refine VC.cond (by rfl) (by trivial) (fun hc => ?_) (fun hc => ?_)
  · simp only [decide_eq_true_eq] at hc
    obtain ⟨x, hx⟩ : ∃ x, l[i]? = some x := ⟨l[i]'(by omega), List.getElem?_eq_getElem _⟩
    have hw : IntKind.i64.wrap ((i : Int) + 1) = (i : Int) + 1 := wrap64_id (by omega) (by omega)
    have hkx := hk x (List.mem_of_getElem? hx)
    (repeat (first | refine pass ?_ | refine VC.region (by rfl) (by rfl) ?_ | (refine AO.step fun K hK => ?_; simp only [List.getElem?_map, hx, iPV, go_sem, Int.reduceBEq, Int.reduceLE, Int.reduceLT, Int.reduceNeg, Nat.reduceAdd, Nat.reduceEqDiff, Nat.reduceLT, Nat.reduceLeDiff, Nat.reduceMul, Nat.reduceSub, reduceCtorEq, ↓reduceIte]; (first | refine gsel_skip ?_ | refine gsel_go ?_ | skip); (first | refine hK _ _ _ ?_ | refine ⟨by first | omega | exact ⟨_, rfl, rfl⟩ | exact fun _ => ⟨_, rfl, rfl⟩ | (intro h; simp only [List.getElem?_map, hx, iPV, h, true_and]; omega) | (clear hK; intro h; simp_all <;> omega), hK _ _ _ ?_⟩); clear hK K) | refine VC.draw mixP (by rfl) (by rfl) ?_ | refine ⟨okd_of (by kernel_rfl), ?_⟩ | refine BQ.other (by decide) ?_ | refine VC.seq ?_ | refine AO.nil ?_ | refine VC.block ?_))
    ((refine AO.step fun K hK => ?_; simp only [go_sem, Int.reduceBEq, Int.reduceLE, Int.reduceLT, Int.reduceNeg, Nat.reduceAdd, Nat.reduceEqDiff, Nat.reduceLT, Nat.reduceLeDiff, Nat.reduceMul, Nat.reduceSub, reduceCtorEq, ↓reduceIte, iPV, hp, hp', pureL_app, pureL_c, List.append_assoc]; (first | refine gsel_go ?_ | skip)); refine .inl ⟨_, hkx, hK _ _ _ ?_⟩; clear hK K)
    refine walkG ?_
    refine VC.cond (by rfl) (by trivial) (fun hpx => ?_) (fun hpx => ?_)
    · have hr := idxP_at hx hpx ht
      refine walkG ?_
      refine ⟨by first | exact .inr rfl | exact .inl rfl, ?_⟩; rw [Tryz.results254]; simp only [resOk, resV, go_sem, simprocAttr]
      rw [hr]
      exact .c _
    · refine walkGF (hw) ?_
      refine .next ⟨i + 1, by omega, fun j y hj hy => ?_⟩ ?_ (by simp only []; omega)
      · rcases Nat.lt_or_ge j i with h | h
        · exact ht j y h hy
        · obtain rfl : j = i := by omega
          rw [hx] at hy
          obtain rfl := Option.some.inj hy
          exact hpx
      simp only [sc_pureL hp, sc_pureL hp', Weak, eq_self, used_is, sc_any, sc_c, sc_pp, sc_ref, sc_row, sc_agg, sc_fn, ScL, some_imp, List.forall_mem_map, go_sem, Int.reduceBEq, Int.reduceLE, Int.reduceLT, Int.reduceNeg, Nat.reduceAdd, Nat.reduceEqDiff, Nat.reduceLT, Nat.reduceLeDiff, Nat.reduceMul, Nat.reduceSub, reduceCtorEq, ↓reduceIte]
      exact cI (by omega)
  · simp only [decide_eq_false_iff_not] at hc
    obtain rfl : i = l.length := by omega
    have hr := idxP_none ht
    refine walkG ?_
    refine ⟨by first | exact .inr rfl | exact .inl rfl, ?_⟩; rw [Tryz.results254]; simp only [resOk, resV, go_sem, simprocAttr]
    rw [hr]
    exact .c _
set_option maxRecDepth 100000 in
set_option maxHeartbeats 400000 in
theorem cnfI_told {g : FuncId} {fs cs : List AV} (hp : AV.pureL fs = true) (hp' : AV.pureL cs = true) (l : List (Int)) (p : Int → Bool) (hk : ∀ x ∈ l, Told Tryz.prog g (fs ++ ([.c (.v (.int .i64 x))] ++ cs)) (.c (.v (.bool (p x))))) :
    Told Tryz.prog 222 [.c (.sl 1 (l.map iPV)), .fn (.func g) fs cs] (.c (.v (.bool (l.any p)))) := by
  have hi := ixfI_told hp hp' l p hk
  refine VC.told ent_222 Tryz.func222 rfl Tryz.ntmps222 (by simp) (by simp [AV.pureB, AV.pureL, hp, hp']) rfl fun hb => ?_
  clear hb
  refine walkG ?_
  refine walkCF (And.intro hp hp') (hi) ?_
  refine walkG ?_
  refine ⟨by first | exact .inr rfl | exact .inl rfl, ?_⟩; rw [Tryz.results222]; simp only [resOk, resV, go_sem, simprocAttr]
  exact frz_c (by rw [idxP_any])

theorem kindAt_of {ns : List NT} {j : Nat} {n : NT} (h : ns[j]? = some n) : kindAt ns j = n.kind := by rw [kindAt, h]
set_option maxRecDepth 100000 in
set_option maxHeartbeats 800000 in
theorem union1_told (s : ST) (j : Nat) (k kind : Int) (hj : j < s.nodes.length) :
    Told Tryz.prog 223 [.c (.v (.int .i64 (j : Int))), .pp [.v (.int .i64 k)], .pp [.v (.int .i64 kind)], .pp s.cells] (.c (.v (.bool ((j : Int) == k || (!namedK kind && kindAt s.nodes j == kind))))) := by
  obtain ⟨n, hn⟩ : ∃ n, s.nodes[j]? = some n := ⟨s.nodes[j], List.getElem?_eq_getElem hj⟩
  have hnp : (s.nodes.map NT.cells)[j]? = some n.cells := by rw [List.getElem?_map, hn]; rfl
  rw [kindAt_of hn]
  have hN := named_told kind
  rw [scells_mk]
  refine VC.told ent_223 Tryz.func223 rfl Tryz.ntmps223 (by simp) (by first | rfl | simp [AV.pureB, AV.pureL, pureL_c, pures]) (by first | rfl | simp [AV.pureB, AV.pureL, pureL_c, pures]) fun hb => ?_
  clear hb
  refine walkG ?_
  refine walkD (hN) ?_
  refine walkGF (And.intro hnp @ncells_mk) ?_
  refine ⟨by first | exact .inr rfl | exact .inl rfl, ?_⟩; rw [Tryz.results223]; simp only [resOk, resV, go_sem, simprocAttr]
  exact .c _
theorem drop_at {α : Type} {l : List α} {i : Nat} {x : α} (h : l[i]? = some x) : l.drop i = x :: l.drop (i + 1) := by
  obtain ⟨hlt, rfl⟩ := List.getElem?_eq_some_iff.1 h
  exact List.drop_eq_getElem_cons hlt
set_option maxRecDepth 100000 in
set_option maxHeartbeats 800000 in
theorem union_told (s : ST) (l : List Int) (hl : ∀ k ∈ l, 0 ≤ k ∧ k < (s.nodes.length : Int)) (hlen : l.length ≤ 1000000) :
    Told Tryz.prog 169 [s.av, .c (.sl 1 (l.map iPV))] (.c (.v (.bool (unionM s.nodes l)))) := by
  obtain ⟨V, hV⟩ : ∃ V, V = unionM s.nodes l := ⟨_, rfl⟩
  rw [← hV]
  unfold unionM at hV
  rw [ST.av_eq, scells_mk]
  refine VC.told ent_169 Tryz.func169 rfl Tryz.ntmps169 (by simp) (by first | rfl | simp [AV.pureB, AV.pureL, pureL_c, pures]) (by first | rfl | simp [AV.pureB, AV.pureL, pureL_c, pures]) fun hb => ?_
  clear hb
  refine walkG ?_
  refine VC.cond (by rfl) (by trivial) (fun hc => ?_) (fun hc => ?_)
  · have hf : V = false := by
      have : ¬ (1 ≤ l.length ∧ l.length ≤ 10) := by simp at hc; omega
      rw [hV]
      by_cases h1 : 1 ≤ l.length
      · have : ¬ l.length ≤ 10 := fun h => this ⟨h1, h⟩
        simp [this]
      · simp [h1]
    subst hf
    refine walkG ?_
    refine ⟨by first | exact .inr rfl | exact .inl rfl, ?_⟩; rw [Tryz.results169]; simp only [resOk, resV, go_sem, simprocAttr]
    exact .c _
  have hv : branchesM s.nodes [] l = V := by
    have h1 : 1 ≤ l.length ∧ l.length ≤ 10 := by simp at hc; omega
    rw [hV]
    simp [h1.1, h1.2]
  clear hV hc
  refine VC.frz [0] [(1, .c (.sl 1 (l.map iPV))), (2, .pp [.sl 10 (s.nodes.map NT.cells), .v (.int .i64 s.root)])] [] 400 ?_ ?_
  · simp only [WeakF, used_is, sc_any, sc_c, sc_pp, sc_ref, sc_row, sc_agg, sc_fn, ScL, some_imp, List.forall_mem_map, go_sem, Int.reduceBEq, Int.reduceLE, Int.reduceLT, Int.reduceNeg, Nat.reduceAdd, Nat.reduceEqDiff, Nat.reduceLT, Nat.reduceLeDiff, Nat.reduceMul, Nat.reduceSub, reduceCtorEq, ↓reduceIte]
    exact ⟨.same _, .ref (es := [.sl 10 (s.nodes.map NT.cells), .v (.int .i64 s.root)]) (by simp) rfl rfl rfl rfl⟩
  refine walkG ?_
  refine VC.loop (ι := {i : Nat // i ≤ l.length ∧ branchesM s.nodes (l.take i) (l.drop i) = V})
    (fun q => [(1, .c (.sl 1 (l.map iPV))), (2, .pp [.sl 10 (s.nodes.map NT.cells), .v (.int .i64 s.root)]), (16, .c (.sl 1 (l.map iPV))), (17, .c (.v (.int .i64 (l.length : Int)))), (18, .c (.v (.int .i64 (q.1 : Int))))]) (fun q => []) 800 (fun q => l.length - q.1) ⟨0, Nat.zero_le _, by simpa using hv⟩ ?_ ?_
  · simp only [Weak, eq_self, used_is, sc_any, sc_c, sc_pp, sc_ref, sc_row, sc_agg, sc_fn, ScL, some_imp, List.forall_mem_map, go_sem, Int.reduceBEq, Int.reduceLE, Int.reduceLT, Int.reduceNeg, Nat.reduceAdd, Nat.reduceEqDiff, Nat.reduceLT, Nat.reduceLeDiff, Nat.reduceMul, Nat.reduceSub, reduceCtorEq, ↓reduceIte]
  clear hv
  rintro ⟨i, hi, hv⟩
  simp only []
  refine walkG ?_
  refine VC.cond (by rfl) (by trivial) (fun hc => ?_) (fun hc => ?_)
  · have hlt : i < l.length := by simp at hc; omega
    obtain ⟨x, hx⟩ : ∃ x, l[i]? = some x := ⟨l[i], List.getElem?_eq_getElem hlt⟩
    obtain ⟨h0, h1⟩ := hl x (List.mem_of_getElem? hx)
    obtain ⟨p, rfl⟩ : ∃ p : Nat, x = (p : Int) := ⟨x.toNat, by omega⟩
    have hp : p < s.nodes.length := by omega
    obtain ⟨n, hn⟩ : ∃ n, s.nodes[p]? = some n := ⟨s.nodes[p], List.getElem?_eq_getElem hp⟩
    have hnp : (s.nodes.map NT.cells)[p]? = some n.cells := by rw [List.getElem?_map, hn]; rfl
    have hw : IntKind.i64.wrap ((i : Int) + 1) = (i : Int) + 1 := wrap64_id (by omega) (by omega)
    have hxp : (l.map iPV)[i]? = some (iPV (p : Int)) := by rw [List.getElem?_map, hx]; rfl
    have htk : (l.map iPV).take i = (l.take i).map iPV := by rw [List.map_take]
    have hF := cnfI_told (g := 223) (fs := []) (cs := [.pp [.v (.int .i64 (p : Int))], .pp [.v (.int .i64 n.kind)], .pp s.cells]) rfl rfl (l.take i) (fun m => m == (p : Int) || (!namedK n.kind && kindAt s.nodes m.toNat == n.kind)) fun m hm => by
      obtain ⟨h2, h3⟩ := hl m (List.mem_of_mem_take hm)
      obtain ⟨j, rfl⟩ : ∃ j : Nat, m = (j : Int) := ⟨m.toNat, by omega⟩
      have := union1_told s j (p : Int) n.kind (by omega)
      rw [Int.toNat_natCast]
      exact this
    rw [drop_at hx, branchesM, branchM, Int.toNat_natCast, kindAt_of hn] at hv
    obtain ⟨b, hb⟩ : ∃ b : Bool, b = (l.take i).any fun m => m == (p : Int) || (!namedK n.kind && kindAt s.nodes m.toNat == n.kind) := ⟨_, rfl⟩
    rw [← hb] at hF hv
    refine walkGF (And.intro hxp (And.intro @iPV_eq (And.intro hnp @ncells_mk))) ?_
    (refine AO.step fun K hK => ?_; simp only [go_sem, Int.reduceBEq, Int.reduceLE, Int.reduceLT, Int.reduceNeg, Nat.reduceAdd, Nat.reduceEqDiff, Nat.reduceLT, Nat.reduceLeDiff, Nat.reduceMul, Nat.reduceSub, reduceCtorEq, ↓reduceIte, htk]; (first | refine gsel_go ?_ | skip))
    refine .inr (.inl ⟨.c (.v (.bool b)), [.c (.sl 1 ((l.take i).map iPV)), .fn (.func 223) [] [.pp [.v (.int .i64 (p : Int))], .pp [.v (.int .i64 n.kind)], .pp s.cells]], [832, 904], fun hg => ⟨hg, by rfl, rfl, fun k x z h5 h6 => ?_, rfl, hF⟩, hK _ _ _ ?_⟩)
    · match k with
      | 0 => obtain rfl := Option.some.inj h5; obtain rfl := Option.some.inj h6; exact .same _
      | 1 =>
        obtain rfl := Option.some.inj h5
        obtain rfl := Option.some.inj h6
        refine .fn rfl (by simp) rfl fun k x z h7 h8 => ?_
        match k with
        | 0 => obtain rfl := Option.some.inj h7; obtain rfl := Option.some.inj h8; exact View.ref (es := [.v (.int .i64 (p : Int))]) rfl rfl rfl rfl
        | 1 => obtain rfl := Option.some.inj h7; obtain rfl := Option.some.inj h8; exact View.ref (es := [.v (.int .i64 n.kind)]) rfl rfl rfl rfl
        | 2 => obtain rfl := Option.some.inj h7; obtain rfl := Option.some.inj h8; exact .same _
        | k + 3 => simp at h7
      | k + 2 => simp at h5
    clear hK K
    refine walkG ?_
    refine VC.cond (by rfl) (by trivial) (fun hc2 => ?_) (fun hc2 => ?_)
    · have hf : V = false := by
        rw [← hv]
        have : (n.kind != 13 && !b) = false := by
          cases b <;> simp at hc2 ⊢
          exact hc2
        rw [this]
        rfl
      subst hf
      refine walkG ?_
      refine ⟨by first | exact .inr rfl | exact .inl rfl, ?_⟩; rw [Tryz.results169]; simp only [resOk, resV, go_sem, simprocAttr]
      exact .c _
    · refine walkGF (hw) ?_
      refine .next ⟨i + 1, by omega, ?_⟩ ?_ (by simp only []; omega)
      · have : (n.kind != 13 && !b) = true := by
          cases b <;> simp at hc2 ⊢
          exact hc2
        rw [this, Bool.true_and] at hv
        rw [List.take_add_one, hx]
        exact hv
      simp only [Weak, eq_self, used_is, sc_any, sc_c, sc_pp, sc_ref, sc_row, sc_agg, sc_fn, ScL, some_imp, List.forall_mem_map, go_sem, Int.reduceBEq, Int.reduceLE, Int.reduceLT, Int.reduceNeg, Nat.reduceAdd, Nat.reduceEqDiff, Nat.reduceLT, Nat.reduceLeDiff, Nat.reduceMul, Nat.reduceSub, reduceCtorEq, ↓reduceIte]
      try exact cI (by omega)
  · have hie : i = l.length := by simp at hc; omega
    have hf : V = true := by
      rw [← hv, hie, List.drop_length, branchesM]
    subst hf
    refine walkG ?_
    refine ⟨by first | exact .inr rfl | exact .inl rfl, ?_⟩; rw [Tryz.results169]; simp only [resOk, resV, go_sem, simprocAttr]
    exact .c _

set_option maxRecDepth 100000 in
set_option maxHeartbeats 1600000 in
theorem node_told (s : ST) (n : NT) (hsm : n.sm 1000000) (hbr : n.kind = 13 → ∀ k ∈ n.branches, 0 ≤ k ∧ k < (s.nodes.length : Int)) : Told Tryz.prog 85 [s.av, n.av] (.c (.v (.bool (nodeM s.nodes n)))) := by
  obtain ⟨V, hV⟩ : ∃ V, V = nodeM s.nodes n := ⟨_, rfl⟩
  rw [← hV]
  unfold nodeM at hV
  obtain ⟨hn1, hn2, ⟨ha1, ha2⟩, ⟨hs1, hs2⟩, hb1, hf1, hf2⟩ := hsm
  have hB := bare_told n
  have hN := named_told n.kind
  have hF := full_told n.name (by omega)
  have hKd := kind_told n.name
  have hA := all_told (g := 89) (rule := fullM) n.aliases fun x hx => full_told x (by have := ha2 x hx; omega)
  have hFi := fields_told n.fields hf1 hf2
  have hC := contains_told n.symbols n.dflt
  have hD := different_told (g := 168) (rule := simpleM) n.symbols (by omega) fun x hx => simple_told x (by have := hs2 x hx; omega)
  have hU := fun h => union_told s n.branches (hbr h) hb1
  clear hbr ha1 ha2 hs2 hf2
  simp only [NT.av_eq, ncells_mk, List.map_cons, List.map_nil] at hB
  simp only [ST.av_eq, scells_mk, List.map_cons, List.map_nil] at hU
  obtain ⟨b0, h0⟩ : ∃ b, b = bareM n := ⟨_, rfl⟩
  obtain ⟨bN, hNN⟩ : ∃ b, b = namedK n.kind := ⟨_, rfl⟩
  obtain ⟨bF, hFF⟩ : ∃ b, b = fullM n.name := ⟨_, rfl⟩
  obtain ⟨kK, hKK⟩ : ∃ b, b = kindM n.name := ⟨_, rfl⟩
  obtain ⟨bA, hAA⟩ : ∃ b, b = allM fullM n.aliases := ⟨_, rfl⟩
  rw [← h0] at hV hB
  rw [← hNN] at hV hN
  rw [← hFF] at hV hF
  rw [← hKK] at hV hKd
  rw [← hAA] at hV hA
  clear h0 hFF hKK hAA
  rw [NT.av_eq, ncells_mk, ST.av_eq, scells_mk]
  have hE : (⟨#[]⟩ : ByteArray).toList = [] := str_toList []
  refine VC.told ent_85 Tryz.func85 rfl Tryz.ntmps85 (by simp) (by first | rfl | simp [AV.pureB, AV.pureL, pureL_c, pures]) (by first | rfl | simp [AV.pureB, AV.pureL, pureL_c, pures]) fun hb => ?_
  clear hb
  refine walkG ?_
  refine walkD (hB) ?_
  refine walkG ?_
  refine VC.cond (by rfl) (by trivial) (fun hc => ?_) (fun hc => ?_)
  · have hf : V = false := by
      rw [hV]
      have : (decide (1 ≤ n.kind) && (decide (n.kind ≤ 14) && b0)) = false := by
        simp at hc ⊢
        intro h1 h2
        cases b0 with
        | false => rfl
        | true => simp at hc; omega
      rw [this]
      rfl
    subst hf
    refine walkG ?_
    refine ⟨by first | exact .inr rfl | exact .inl rfl, ?_⟩; rw [Tryz.results85]; simp only [resOk, resV, go_sem, simprocAttr]
    exact .c _
  have h1 : (decide (1 ≤ n.kind) && (decide (n.kind ≤ 14) && b0)) = true := by
    simp at hc ⊢
    exact ⟨by omega, by omega, hc.2⟩
  rw [h1, Bool.true_and] at hV
  clear h1 hc
  refine walkG ?_
  refine walkC (hN) ?_
  refine walkG ?_
  refine walkD (hF) ?_
  refine walkG ?_
  refine walkD (hKd) ?_
  refine walkG ?_
  refine walkD (hA) ?_
  refine walkG ?_
  refine VC.cond (by rfl) (by trivial) (fun hc => ?_) (fun hc => ?_)
  · have hf : V = false := by
      rw [hV]
      have : (!bN || (bF && (kK == 0 && bA))) = false := by
        cases bN <;> cases bF <;> cases bA <;> simp at hc ⊢
        simpa using hc
      rw [this]
      rfl
    subst hf
    refine walkG ?_
    refine ⟨by first | exact .inr rfl | exact .inl rfl, ?_⟩; rw [Tryz.results85]; simp only [resOk, resV, go_sem, simprocAttr]
    exact .c _
  have h1 : (!bN || (bF && (kK == 0 && bA))) = true := by
    cases bN <;> cases bF <;> cases bA <;> simp at hc ⊢
    simpa using hc
  rw [h1, Bool.true_and] at hV
  clear h1 hc hN hF hKd hA hB
  by_cases h9 : n.kind = 9
  · rw [if_pos h9] at hV
    subst hV
    rw [h9]
    refine walkB ?_
    refine walkC (hFi) ?_
    refine walkG ?_
    refine ⟨by first | exact .inr rfl | exact .inl rfl, ?_⟩; rw [Tryz.results85]; simp only [resOk, resV, go_sem, simprocAttr]
    exact .c _
  by_cases h10 : n.kind = 10
  · rw [if_neg h9, if_pos h10] at hV
    rw [h10]
    obtain ⟨bC, hCC⟩ : ∃ b, b = n.symbols.contains n.dflt := ⟨_, rfl⟩
    obtain ⟨bD, hDD⟩ : ∃ b, b = diffM simpleM n.symbols := ⟨_, rfl⟩
    rw [← hCC] at hV hC
    rw [← hDD] at hV hD
    clear hCC hDD
    refine walkB ?_
    refine walkC (hC) ?_
    refine walkGF (And.intro @str_toList hE) ?_
    refine VC.cond (by rfl) (by trivial) (fun hc => ?_) (fun hc => ?_)
    · have hf : V = false := by
        rw [hV]
        have : ((n.has == bC) && (n.has || n.dflt.isEmpty)) = false := by
          cases hh : n.has <;> cases bC <;> cases hd : n.dflt <;> simp [hh, hd] at hc ⊢
        rw [this]
        rfl
      subst hf
      refine walkG ?_
      refine ⟨by first | exact .inr rfl | exact .inl rfl, ?_⟩; rw [Tryz.results85]; simp only [resOk, resV, go_sem, simprocAttr]
      exact .c _
    · have h1 : ((n.has == bC) && (n.has || n.dflt.isEmpty)) = true := by
        cases hh : n.has <;> cases bC <;> cases hd : n.dflt <;> simp [hh, hd] at hc ⊢
      rw [h1, Bool.true_and] at hV
      have hv : V = ((decide ((n.symbols.length : Int) ≥ 1) && decide ((n.symbols.length : Int) ≤ 40)) && bD) := by
        rw [hV, Bool.and_assoc]
        congr 1
        · simp
          omega
        · congr 1
          simp
          omega
      clear hV hc h1
      replace hv := Lib.hid hv
      refine walkG ?_
      refine walkD (hD) ?_
      refine walkG ?_
      refine ⟨by first | exact .inr rfl | exact .inl rfl, ?_⟩; rw [Tryz.results85]; simp only [resOk, resV, go_sem, simprocAttr]
      rw [hv.out]
      exact .c _
  by_cases h14 : n.kind = 14
  · rw [if_neg h9, if_neg h10, if_pos h14] at hV
    rw [h14]
    refine walkB ?_
    refine ⟨by first | exact .inr rfl | exact .inl rfl, ?_⟩; rw [Tryz.results85]; simp only [resOk, resV, go_sem, simprocAttr]
    rw [hV]
    exact .c _
  by_cases h13 : n.kind = 13
  · rw [if_neg h9, if_neg h10, if_neg h14, if_pos h13] at hV
    subst hV
    rw [h13]
    have hU := hU h13
    refine walkB ?_
    refine walkC (hU) ?_
    refine walkG ?_
    refine ⟨by first | exact .inr rfl | exact .inl rfl, ?_⟩; rw [Tryz.results85]; simp only [resOk, resV, go_sem, simprocAttr]
    exact .c _
  · rw [if_neg h9, if_neg h10, if_neg h14, if_neg h13] at hV
    subst hV
    have e9 : (n.kind == 9) = false := by simpa using h9
    have e10 : (n.kind == 10) = false := by simpa using h10
    have e14 : (n.kind == 14) = false := by simpa using h14
    have e13 : (n.kind == 13) = false := by simpa using h13
    refine walkBF (And.intro e9 (And.intro e10 (And.intro e14 e13))) ?_
    refine ⟨by first | exact .inr rfl | exact .inl rfl, ?_⟩; rw [Tryz.results85]; simp only [resOk, resV, go_sem, simprocAttr]
    exact .c _

def wB (ns : List NT) (r : Int) (p : Nat) : Blkd := ⟨false, 215, 3, [[.c (.sl 10 (ns.map NT.cells)), .c (.v (.int .i64 r)), .c (.v (.int .i64 (p : Int)))]]⟩
theorem kids_len {n : NT} (h : n.sm 1000000) : (kidsN n).length ≤ 1000000 := by
  unfold kidsN
  have h1 := h.2.2.2.2.1
  have h2 := h.2.2.2.2.2.1
  split
  · simpa using h2
  · split
    · simp
    · split
      · exact h1
      · simp
theorem drop_at' {α : Type} {l : List α} {i : Nat} {x : α} (h : l[i]? = some x) : l.drop i = x :: l.drop (i + 1) := by
  obtain ⟨hlt, rfl⟩ := List.getElem?_eq_some_iff.1 h
  exact List.drop_eq_getElem_cons hlt
set_option maxRecDepth 100000 in
set_option maxHeartbeats 1600000 in
theorem walk_told (ns : List NT) (r : Int) (hl : ns.length ≤ 1000000) (hs : ∀ n ∈ ns, n.sm 1000000) : ∀ (d : Nat) (z : Int), z = 33 - (d : Int) → d ≤ 33 → ∀ p : Nat, p ≤ ns.length →
    ToldM Tryz.prog 162 [.ref 1000000 1 0 0, .c (.v (.int .i64 z))] [wB ns r p] [some (wB ns r (walkM ns d p).2)] (.c (.v (.bool (walkM ns d p).1))) := by
  intro d
  induction d with
  | zero =>
    intro z hz hd p hp
    have hz2 : decide (z > 32) = true := by simp; omega
    rw [walkM]
    unfold wB
    refine VC.toldM ent_162 [] Tryz.func162 rfl Tryz.ntmps162 (by simp) (by simp only [ScM, zOk, inL, eq_self, used_is, sc_any, sc_c, sc_pp, sc_ref, sc_row, sc_agg, sc_tup, sc_fn, ScL, some_imp, List.forall_mem_map, Nat.le_refl, go_sem, simprocAttr]) (by simp only [ScM, zOk, inL, eq_self, used_is, sc_any, sc_c, sc_pp, sc_ref, sc_row, sc_agg, sc_tup, sc_fn, ScL, some_imp, List.forall_mem_map, Nat.le_refl, go_sem, simprocAttr]) (by simp only [ScM, zOk, inL, eq_self, used_is, sc_any, sc_c, sc_pp, sc_ref, sc_row, sc_agg, sc_tup, sc_fn, ScL, some_imp, List.forall_mem_map, Nat.le_refl, go_sem, simprocAttr]) (by simp only [ScM, zOk, inL, eq_self, used_is, sc_any, sc_c, sc_pp, sc_ref, sc_row, sc_agg, sc_tup, sc_fn, ScL, some_imp, List.forall_mem_map, Nat.le_refl, go_sem, simprocAttr]) (by simp) fun hb hbL => ?_
    clear hb hbL
    refine walkGF (hz2) ?_
    refine VC.cond (by rfl) (by trivial) (fun hc => ?_) (fun hc => ?_)
    · refine walkG ?_
      refine ⟨by first | exact .inr rfl | exact .inl rfl, ?_⟩; rw [Tryz.results162]; simp only [resOk, resV, go_sem, simprocAttr]
      exact .c _
    · exact absurd hc (by simp)
  | succ d ih =>
    intro z hz hd p hp
    have hz2 : decide (z > 32) = false := by simp; omega
    have hwz : IntKind.i64.wrap (z + 1) = z + 1 := wrap64_id (by omega) (by omega)
    have hI := ih (z + 1) (by omega) (by omega)
    clear ih
    obtain ⟨R, hR⟩ : ∃ R, R = walkM ns (d + 1) p := ⟨_, rfl⟩
    rw [← hR]
    rw [walkM] at hR
    have hle := walkM_le ns d
    by_cases hlt : p < ns.length
    · obtain ⟨n, hn⟩ : ∃ n, ns[p]? = some n := ⟨ns[p], List.getElem?_eq_getElem hlt⟩
      have hnp : (ns.map NT.cells)[p]? = some n.cells := by rw [List.getElem?_map, hn]; rfl
      have hge : decide ((p : Int) ≥ (ns.length : Int)) = false := by simp; omega
      have hwp : IntKind.i64.wrap ((p : Int) + 1) = ((p + 1 : Nat) : Int) := by rw [wrap64_id (by omega) (by omega)]; rfl
      have hns := hs n (List.mem_of_getElem? hn)
      have hK := kids_told n hns
      have hkl := kids_len hns
      rw [hn] at hR
      simp only [] at hR
      obtain ⟨ks, hks⟩ : ∃ ks, ks = kidsN n := ⟨_, rfl⟩
      rw [← hks] at hK hR hkl
      simp only [NT.av_eq] at hK
      clear hks
      have hKi := hK
      clear hK
      unfold wB at hI ⊢
      refine VC.toldM ent_162 [] Tryz.func162 rfl Tryz.ntmps162 (by simp) (by simp only [ScM, zOk, inL, eq_self, used_is, sc_any, sc_c, sc_pp, sc_ref, sc_row, sc_agg, sc_tup, sc_fn, ScL, some_imp, List.forall_mem_map, Nat.le_refl, go_sem, simprocAttr]) (by simp only [ScM, zOk, inL, eq_self, used_is, sc_any, sc_c, sc_pp, sc_ref, sc_row, sc_agg, sc_tup, sc_fn, ScL, some_imp, List.forall_mem_map, Nat.le_refl, go_sem, simprocAttr]) (by simp only [ScM, zOk, inL, eq_self, used_is, sc_any, sc_c, sc_pp, sc_ref, sc_row, sc_agg, sc_tup, sc_fn, ScL, some_imp, List.forall_mem_map, Nat.le_refl, go_sem, simprocAttr]) (by simp only [ScM, zOk, inL, eq_self, used_is, sc_any, sc_c, sc_pp, sc_ref, sc_row, sc_agg, sc_tup, sc_fn, ScL, some_imp, List.forall_mem_map, Nat.le_refl, go_sem, simprocAttr]) (by simp) fun hb hbL => ?_
      clear hb hbL
      refine walkGF (And.intro hge hz2) ?_
      refine VC.cond (by rfl) (by trivial) (fun hc => ?_) (fun hc => ?_)
      · exact absurd hc (by simp)
      refine walkGF (And.intro hwp (And.intro hnp (And.intro @len_ncells (And.intro @take_ncells @take_ncellsC)))) ?_
      refine walkCF (@pureL_c) (hKi) ?_
      refine walkG ?_
      clear hKi
      refine VC.loop (ι := {x : Nat × Nat // x.1 ≤ ks.length ∧ x.2 ≤ ns.length ∧ walkK ns (walkM ns d) (ks.drop x.1) x.2 = R})
        (fun q => [(0, .ref 1000000 1 0 0), (1, .c (.v (.int .i64 z))), (6, .fn (.func 162) [.ref 1000000 1 0 0] []), (42, .c (.sl 1 (ks.map iPV))), (43, .c (.v (.int .i64 (ks.length : Int)))), (44, .c (.v (.int .i64 (q.1.1 : Int))))])
        (fun q => [(1000000, ⟨false, 215, 3, [[.c (.sl 10 (ns.map NT.cells)), .c (.v (.int .i64 r)), .c (.v (.int .i64 (q.1.2 : Int)))]]⟩)]) 800 (fun q => ks.length - q.1.1) ⟨(0, p + 1), Nat.zero_le _, hlt, by rw [List.drop_zero]; exact hR.symm⟩ ?_ ?_
      · simp only [Weak, eq_self, used_is, sc_any, sc_c, sc_pp, sc_ref, sc_row, sc_agg, sc_fn, ScL, some_imp, List.forall_mem_map, go_sem, Int.reduceBEq, Int.reduceLE, Int.reduceLT, Int.reduceNeg, Nat.reduceAdd, Nat.reduceEqDiff, Nat.reduceLT, Nat.reduceLeDiff, Nat.reduceMul, Nat.reduceSub, reduceCtorEq, ↓reduceIte]
        try simp
      clear hR
      rintro ⟨⟨i, q⟩, hi, hq, hR⟩
      simp only [] at hi hq hR ⊢
      refine walkG ?_
      refine VC.cond (by rfl) (by trivial) (fun hc2 => ?_) (fun hc2 => ?_)
      · have hil : i < ks.length := by simp at hc2; omega
        obtain ⟨x, hx⟩ : ∃ x, ks[i]? = some x := ⟨ks[i], List.getElem?_eq_getElem hil⟩
        have hxp : (ks.map iPV)[i]? = some (iPV x) := by rw [List.getElem?_map, hx]; rfl
        have hw : IntKind.i64.wrap ((i : Int) + 1) = (i : Int) + 1 := wrap64_id (by omega) (by omega)
        rw [drop_at' hx, walkK] at hR
        by_cases hk : x = (q : Int)
        · rw [if_pos hk] at hR
          have hkq : (x == (q : Int)) = true := by simpa using hk
          have hIq := hI q hq
          have hqb := (hle q hq).2
          obtain ⟨M, hM⟩ : ∃ M, M = walkM ns d q := ⟨_, rfl⟩
          rw [← hM] at hIq hR hqb
          clear hI hM
          refine walkBF (And.intro hxp (And.intro @iPV_eq (And.intro hkq hwz))) ?_
          ((refine AO.step fun K hK => ?_; simp only [go_sem, Int.reduceBEq, Int.reduceLE, Int.reduceLT, Int.reduceNeg, Nat.reduceAdd, Nat.reduceEqDiff, Nat.reduceLT, Nat.reduceLeDiff, Nat.reduceMul, Nat.reduceSub, reduceCtorEq, ↓reduceIte]; (first | refine gsel_go ?_ | skip)); refine .inr (.inr (.inl ⟨?vy1, [1000000], ?va1, ?vl1, ?vm1, ?cond1, ?cont1⟩)); (case cond1 => ((repeat' apply And.intro) <;> (try ((with_reducible show ToldM _ _ _ _ _ _); exact hIq))); (all_goals first | trivial | (simp only [go_sem, simprocAttr]; done) | (simp; done) | rfl)); (first | refine hK _ _ _ ?_ | (simp only [go_sem, simprocAttr]; first | refine hK _ _ _ ?_ | refine ⟨rfl, hK _ _ _ ?_⟩)); clear hK K)
          refine walkG ?_
          refine VC.cond (by rfl) (by trivial) (fun hc3 => ?_) (fun hc3 => ?_)
          · have hf : R = (false, M.2) := by
              rw [if_neg (by simpa using hc3)] at hR
              exact hR.symm
            subst hf
            refine walkG ?_
            refine ⟨by first | exact .inr rfl | exact .inl rfl, ?_⟩; rw [Tryz.results162]; simp only [resOk, resV, go_sem, simprocAttr]
            exact .c _
          · rw [if_pos (by simpa using hc3)] at hR
            refine walkGF (hw) ?_
            refine .next ⟨(i + 1, M.2), by simp only []; omega, hqb, hR⟩ ?_ (by simp only []; omega)
            simp only [Weak, eq_self, used_is, sc_any, sc_c, sc_pp, sc_ref, sc_row, sc_agg, sc_fn, ScL, some_imp, List.forall_mem_map, go_sem, Int.reduceBEq, Int.reduceLE, Int.reduceLT, Int.reduceNeg, Nat.reduceAdd, Nat.reduceEqDiff, Nat.reduceLT, Nat.reduceLeDiff, Nat.reduceMul, Nat.reduceSub, reduceCtorEq, ↓reduceIte]
            try exact cI (by omega)
        · rw [if_neg hk] at hR
          have hkq : (x == (q : Int)) = false := by simpa using hk
          by_cases hx0 : x < 0
          · have hf : R = (false, q) := by
              rw [if_pos (.inl hx0)] at hR
              exact hR.symm
            subst hf
            have e0 : decide (x < 0) = true := by simpa using hx0
            refine walkBF (And.intro hxp (And.intro @iPV_eq (And.intro hkq e0))) ?_
            refine ⟨by first | exact .inr rfl | exact .inl rfl, ?_⟩; rw [Tryz.results162]; simp only [resOk, resV, go_sem, simprocAttr]
            exact .c _
          have e0 : decide (x < 0) = false := by simpa using hx0
          by_cases hxq : x > (q : Int)
          · have hf : R = (false, q) := by
              rw [if_pos (.inr (.inl hxq))] at hR
              exact hR.symm
            subst hf
            have e1 : decide (x > (q : Int)) = true := by simpa using hxq
            refine walkBF (And.intro hxp (And.intro @iPV_eq (And.intro hkq (And.intro e0 e1)))) ?_
            refine ⟨by first | exact .inr rfl | exact .inl rfl, ?_⟩; rw [Tryz.results162]; simp only [resOk, resV, go_sem, simprocAttr]
            exact .c _
          have e1 : decide (x > (q : Int)) = false := by simpa using hxq
          obtain ⟨j, rfl⟩ : ∃ j : Nat, x = (j : Int) := ⟨x.toNat, by omega⟩
          have hj : j < ns.length := by omega
          obtain ⟨m, hm⟩ : ∃ m, ns[j]? = some m := ⟨ns[j], List.getElem?_eq_getElem hj⟩
          have hmp : (ns.map NT.cells)[j]? = some m.cells := by rw [List.getElem?_map, hm]; rfl
          have hka : kindAt ns ((j : Int)).toNat = m.kind := by rw [Int.toNat_natCast, kindAt, hm]
          rw [hka] at hR
          have hN := named_told m.kind
          refine walkBF (And.intro hxp (And.intro @iPV_eq (And.intro hkq (And.intro e0 (And.intro e1 (And.intro hmp @ncells_mk)))))) ?_
          refine walkC (hN) ?_
          refine walkG ?_
          refine VC.cond (by rfl) (by trivial) (fun hc3 => ?_) (fun hc3 => ?_)
          · have hf : R = (false, q) := by
              rw [if_pos (.inr (.inr (by simpa using hc3)))] at hR
              exact hR.symm
            subst hf
            refine walkG ?_
            refine ⟨by first | exact .inr rfl | exact .inl rfl, ?_⟩; rw [Tryz.results162]; simp only [resOk, resV, go_sem, simprocAttr]
            exact .c _
          · have hnn : namedK m.kind = true := by simpa using hc3
            have hno : ¬ ((j : Int) < 0 ∨ (j : Int) > (q : Int) ∨ namedK m.kind = false) := by
              rintro (h | h | h)
              · exact hx0 h
              · exact hxq h
              · rw [hnn] at h
                exact absurd h (by simp)
            rw [if_neg hno] at hR
            refine walkGF (hw) ?_
            refine .next ⟨(i + 1, q), by simp only []; omega, hq, hR⟩ ?_ (by simp only []; omega)
            simp only [Weak, eq_self, used_is, sc_any, sc_c, sc_pp, sc_ref, sc_row, sc_agg, sc_fn, ScL, some_imp, List.forall_mem_map, go_sem, Int.reduceBEq, Int.reduceLE, Int.reduceLT, Int.reduceNeg, Nat.reduceAdd, Nat.reduceEqDiff, Nat.reduceLT, Nat.reduceLeDiff, Nat.reduceMul, Nat.reduceSub, reduceCtorEq, ↓reduceIte]
            try exact cI (by omega)
      · have hie : i = ks.length := by simp at hc2; omega
        have hf : R = (true, q) := by
          rw [hie, List.drop_length, walkK] at hR
          exact hR.symm
        subst hf
        refine walkG ?_
        refine ⟨by first | exact .inr rfl | exact .inl rfl, ?_⟩; rw [Tryz.results162]; simp only [resOk, resV, go_sem, simprocAttr]
        exact .c _
    · have hR : R = (false, p) := by
        rw [hR, List.getElem?_eq_none (by omega)]
      subst hR
      have hge : decide ((p : Int) ≥ (ns.length : Int)) = true := by simp; omega
      unfold wB
      refine VC.toldM ent_162 [] Tryz.func162 rfl Tryz.ntmps162 (by simp) (by simp only [ScM, zOk, inL, eq_self, used_is, sc_any, sc_c, sc_pp, sc_ref, sc_row, sc_agg, sc_tup, sc_fn, ScL, some_imp, List.forall_mem_map, Nat.le_refl, go_sem, simprocAttr]) (by simp only [ScM, zOk, inL, eq_self, used_is, sc_any, sc_c, sc_pp, sc_ref, sc_row, sc_agg, sc_tup, sc_fn, ScL, some_imp, List.forall_mem_map, Nat.le_refl, go_sem, simprocAttr]) (by simp only [ScM, zOk, inL, eq_self, used_is, sc_any, sc_c, sc_pp, sc_ref, sc_row, sc_agg, sc_tup, sc_fn, ScL, some_imp, List.forall_mem_map, Nat.le_refl, go_sem, simprocAttr]) (by simp only [ScM, zOk, inL, eq_self, used_is, sc_any, sc_c, sc_pp, sc_ref, sc_row, sc_agg, sc_tup, sc_fn, ScL, some_imp, List.forall_mem_map, Nat.le_refl, go_sem, simprocAttr]) (by simp) fun hb hbL => ?_
      clear hb hbL
      refine walkGF (hge) ?_
      refine VC.cond (by rfl) (by trivial) (fun hc => ?_) (fun hc => ?_)
      · refine walkG ?_
        refine ⟨by first | exact .inr rfl | exact .inl rfl, ?_⟩; rw [Tryz.results162]; simp only [resOk, resV, go_sem, simprocAttr]
        exact .c _
      · exact absurd hc (by simp)
set_option maxRecDepth 100000 in
set_option maxHeartbeats 800000 in
theorem ordered_told (s : ST) (hl : s.nodes.length ≤ 1000000) (hs : ∀ n ∈ s.nodes, n.sm 1000000) : Told Tryz.prog 84 [s.av] (.c (.v (.bool (orderedM s)))) := by
  have hW := walk_told s.nodes s.root hl hs 33 0 (by omega) (by omega) 0 (Nat.zero_le _)
  unfold wB at hW
  obtain ⟨V, hV⟩ : ∃ V, V = orderedM s := ⟨_, rfl⟩
  rw [← hV]
  unfold orderedM at hV
  obtain ⟨M, hM⟩ : ∃ M, M = walkM s.nodes 33 0 := ⟨_, rfl⟩
  rw [← hM] at hV hW
  clear hM
  have hv : V = (decide ((s.nodes.length : Int) > 0) && decide ((s.nodes.length : Int) ≤ 200) && (s.root == 0) && M.1 && ((M.2 : Int) == (s.nodes.length : Int))) := by
    have e1 : decide ((s.nodes.length : Int) > 0) = decide (0 < s.nodes.length) := by simp
    have e2 : decide ((s.nodes.length : Int) ≤ 200) = decide (s.nodes.length ≤ 200) := by simp; omega
    have e3 : (s.root == 0) = decide (s.root = 0) := by by_cases h : s.root = 0 <;> simp [h]
    have e4 : ((M.2 : Int) == (s.nodes.length : Int)) = decide (M.2 = s.nodes.length) := by
      by_cases h : M.2 = s.nodes.length
      · simp [h]
      · have : ¬ ((M.2 : Int) = (s.nodes.length : Int)) := by omega
        simp [h, this]
    rw [hV, e1, e2, e3, e4]
    simp only [Bool.and_assoc]
  clear hV
  replace hv := Lib.hid hv
  rw [ST.av_eq, scells_mk]
  rw [show ((0 : Nat) : Int) = 0 from rfl] at hW
  by_cases c1 : 0 < s.nodes.length
  · have e1 : decide ((s.nodes.length : Int) > 0) = true := by simpa using c1
    by_cases c2 : s.nodes.length ≤ 200
    · have e2 : decide ((s.nodes.length : Int) ≤ 200) = true := by simp; omega
      by_cases c3 : s.root = 0
      · have e3 : (s.root == 0) = true := by simpa using c3
        have hv2 : V = (M.1 && ((M.2 : Int) == (s.nodes.length : Int))) := by rw [hv.out, e1, e2, e3]; simp
        clear hv
        replace hv2 := Lib.hid hv2
        refine VC.told ent_84 Tryz.func84 rfl Tryz.ntmps84 (by simp) (by first | rfl | simp [AV.pureB, AV.pureL, pureL_c, pures]) (by first | rfl | simp [AV.pureB, AV.pureL, pureL_c, pures]) fun hb => ?_
        clear hb
        refine walkGF (And.intro e1 (And.intro e2 e3)) ?_
        ((refine AO.step fun K hK => ?_; simp only [go_sem, Int.reduceBEq, Int.reduceLE, Int.reduceLT, Int.reduceNeg, Nat.reduceAdd, Nat.reduceEqDiff, Nat.reduceLT, Nat.reduceLeDiff, Nat.reduceMul, Nat.reduceSub, reduceCtorEq, ↓reduceIte]; (first | refine gsel_go ?_ | skip)); refine .inr (.inr (.inl ⟨?vy2, [32], ?va2, ?vl2, ?vm2, ?cond2, ?cont2⟩)); (case cond2 => ((repeat' apply And.intro) <;> (try ((with_reducible show ToldM _ _ _ _ _ _); exact hW))); (all_goals first | trivial | (simp only [go_sem, simprocAttr]; done) | (simp; done) | rfl)); (first | refine hK _ _ _ ?_ | (simp only [go_sem, simprocAttr]; first | refine hK _ _ _ ?_ | refine ⟨rfl, hK _ _ _ ?_⟩)); clear hK K)
        refine walkG ?_
        refine ⟨by first | exact .inr rfl | exact .inl rfl, ?_⟩; rw [Tryz.results84]; simp only [resOk, resV, go_sem, simprocAttr]
        rw [hv2.out]
        exact .c _
      · have e3 : (s.root == 0) = false := by simpa using c3
        have hv2 : V = false := by rw [hv.out, e3]; simp
        clear hv
        subst hv2
        refine VC.told ent_84 Tryz.func84 rfl Tryz.ntmps84 (by simp) (by first | rfl | simp [AV.pureB, AV.pureL, pureL_c, pures]) (by first | rfl | simp [AV.pureB, AV.pureL, pureL_c, pures]) fun hb => ?_
        clear hb
        refine walkGF (And.intro e1 (And.intro e2 e3)) ?_
        refine ⟨by first | exact .inr rfl | exact .inl rfl, ?_⟩; rw [Tryz.results84]; simp only [resOk, resV, go_sem, simprocAttr]
        exact .c _
    · have e2 : decide ((s.nodes.length : Int) ≤ 200) = false := by simp; omega
      have hv2 : V = false := by rw [hv.out, e2]; simp
      clear hv
      subst hv2
      refine VC.told ent_84 Tryz.func84 rfl Tryz.ntmps84 (by simp) (by first | rfl | simp [AV.pureB, AV.pureL, pureL_c, pures]) (by first | rfl | simp [AV.pureB, AV.pureL, pureL_c, pures]) fun hb => ?_
      clear hb
      refine walkGF (And.intro e1 e2) ?_
      refine ⟨by first | exact .inr rfl | exact .inl rfl, ?_⟩; rw [Tryz.results84]; simp only [resOk, resV, go_sem, simprocAttr]
      exact .c _
  · have e1 : decide ((s.nodes.length : Int) > 0) = false := by
      rw [show s.nodes.length = 0 by omega]
      rfl
    have hv2 : V = false := by rw [hv.out, e1]; simp
    clear hv
    subst hv2
    refine VC.told ent_84 Tryz.func84 rfl Tryz.ntmps84 (by simp) (by first | rfl | simp [AV.pureB, AV.pureL, pureL_c, pures]) (by first | rfl | simp [AV.pureB, AV.pureL, pureL_c, pures]) fun hb => ?_
    clear hb
    refine walkGF (e1) ?_
    refine ⟨by first | exact .inr rfl | exact .inl rfl, ?_⟩; rw [Tryz.results84]; simp only [resOk, resV, go_sem, simprocAttr]
    exact .c _

def KnOk (kn : List Int) : Prop := ∀ x ∈ kn, -1 ≤ x ∧ x ≤ 1001
theorem KnOk.set {kn : List Int} (h : KnOk kn) (p : Nat) {v : Int} (hv : -1 ≤ v ∧ v ≤ 1001) : KnOk (kn.set p v) := fun x hx => by
  rcases List.mem_or_eq_of_mem_set hx with h1 | rfl
  · exact h x h1
  · exact hv
theorem count_set_le {kn : List Int} (p : Nat) {v : Int} (hv : v ≠ 0) : (kn.set p v).count 0 ≤ kn.count 0 := by
  by_cases hp : p < kn.length
  · rw [List.count_set hp]
    have : (v == 0) = false := by simpa using hv
    simp [this]
  · rw [List.set_eq_of_length_le (by omega)]
    exact Nat.le_refl _
theorem count_set_lt {kn : List Int} {p : Nat} {v : Int} (hp : kn[p]? = some 0) (hv : v ≠ 0) : (kn.set p v).count 0 < kn.count 0 := by
  obtain ⟨hlt, h0⟩ := List.getElem?_eq_some_iff.1 hp
  rw [List.count_set hlt]
  have : (v == 0) = false := by simpa using hv
  have hpos : 0 < kn.count 0 := List.count_pos_iff.2 (h0 ▸ List.getElem_mem hlt)
  simp [this, h0]
  omega
theorem weighK_ok (f : Nat → List Int → Int × List Int) (N : Nat) (hf : ∀ q kn, kn.length = N → KnOk kn → (f q kn).2.length = N ∧ KnOk (f q kn).2 ∧ (f q kn).2.count 0 ≤ kn.count 0 ∧ 1 ≤ (f q kn).1 ∧ (f q kn).1 ≤ 1001) :
    ∀ (xs : List FT) (n : Int) (kn : List Int), kn.length = N → KnOk kn → 1 ≤ n → n ≤ 1001 → (weighK f xs n kn).2.length = N ∧ KnOk (weighK f xs n kn).2 ∧ (weighK f xs n kn).2.count 0 ≤ kn.count 0 ∧ 1 ≤ (weighK f xs n kn).1 ∧ (weighK f xs n kn).1 ≤ 1001
  | [], n, kn, h1, h2, h3, h4 => ⟨h1, h2, Nat.le_refl _, h3, h4⟩
  | x :: xs, n, kn, h1, h2, h3, h4 => by
    rw [weighK]
    obtain ⟨a1, a2, a3, a4, a5⟩ := hf x.type.toNat kn h1 h2
    obtain ⟨b1, b2, b3, b4, b5⟩ := weighK_ok f N hf xs (min (n + (f x.type.toNat kn).1) 1001) (f x.type.toNat kn).2 a1 a2 (by omega) (by omega)
    exact ⟨b1, b2, by omega, b4, b5⟩
theorem knAt_of {kn : List Int} {p : Nat} {v : Int} (h : kn[p]? = some v) : knAt kn p = v := by rw [knAt, h]
theorem weighM_ok (ns : List NT) : ∀ (d q : Nat) (kn : List Int), kn.length = ns.length → KnOk kn → (weighM ns d q kn).2.length = ns.length ∧ KnOk (weighM ns d q kn).2 ∧ (weighM ns d q kn).2.count 0 ≤ kn.count 0 ∧ 1 ≤ (weighM ns d q kn).1 ∧ (weighM ns d q kn).1 ≤ 1001
  | 0, q, kn, h1, h2 => ⟨h1, h2, Nat.le_refl _, (by decide : (1 : Int) ≤ 1001), (by decide : (1001 : Int) ≤ 1001)⟩
  | d + 1, q, kn, h1, h2 => by
    rw [weighM]
    split
    · exact ⟨h1, h2, Nat.le_refl _, (by decide : (1 : Int) ≤ 1001), (by decide : (1001 : Int) ≤ 1001)⟩
    · split
      · rename_i h3 h4
        refine ⟨h1, h2, Nat.le_refl _, by omega, ?_⟩
        unfold knAt
        split
        · rename_i v hv
          exact (h2 v (List.mem_of_getElem? hv)).2
        · exact (by decide : (0 : Int) ≤ 1001)
      · obtain ⟨b1, b2, b3, b4, b5⟩ := weighK_ok (weighM ns d) ns.length (weighM_ok ns d) (fieldsAt ns q) 1 (kn.set q (-1)) (by rw [List.length_set]; exact h1) (h2.set q (by decide)) (by decide) (by decide)
        have c1 := count_set_le (kn := kn) q (v := -1) (by decide)
        have c2 := count_set_le (kn := (weighK (weighM ns d) (fieldsAt ns q) 1 (kn.set q (-1))).2) q (v := (weighK (weighM ns d) (fieldsAt ns q) 1 (kn.set q (-1))).1) (by omega)
        exact ⟨by rw [List.length_set]; exact b1, b2.set q (by omega), by simp only []; omega, b4, b5⟩
set_option maxRecDepth 100000 in
set_option maxHeartbeats 1600000 in
theorem weight_told (s : ST) (hl : s.nodes.length ≤ 1000000) (hs : ∀ n ∈ s.nodes, n.sm 1000000) (hr : ∀ n ∈ s.nodes, n.kind = 9 → ∀ f ∈ n.fields, 0 ≤ f.type ∧ f.type < (s.nodes.length : Int)) : ∀ (d p : Nat) (kn : List Int), p < s.nodes.length → kn.length = s.nodes.length → KnOk kn → kn.count 0 < d →
    ToldM Tryz.prog 86 [s.av, .c (.v (.int .i64 (p : Int))), .row 1000000 s.nodes.length] [⟨true, 3, 1, rA iPV kn⟩] [some ⟨true, 3, 1, rA iPV (weighM s.nodes d p kn).2⟩] (.c (.v (.int .i64 (weighM s.nodes d p kn).1))) := by
  intro d
  induction d with
  | zero => intro p kn _ _ _ h; omega
  | succ d ih =>
  intro p kn hp hk hko hc
  obtain ⟨R, hR⟩ : ∃ R, R = weighM s.nodes (d + 1) p kn := ⟨_, rfl⟩
  rw [← hR]
  rw [weighM] at hR
  obtain ⟨v, hv⟩ : ∃ v, kn[p]? = some v := ⟨kn[p]'(by omega), List.getElem?_eq_getElem (by omega)⟩
  rw [knAt_of hv] at hR
  have hvp : (rA iPV kn)[p]? = some [.c (.v (.int .i64 v))] := rA_at hv
  have hkl : (rA iPV kn).length = s.nodes.length := by rw [rA_len, hk]
  obtain ⟨N, hN⟩ : ∃ N, N = s.nodes.length := ⟨_, rfl⟩
  rw [ST.av_eq, scells_mk]
  by_cases hv0 : v < 0
  · rw [if_pos hv0] at hR
    subst hR
    have e0 : decide (v < 0) = true := by simpa using hv0
    refine VC.toldM ent_86 [] Tryz.func86 rfl Tryz.ntmps86 (by simp) (by simp only [ rA_len, rA_sc, hk, ScM, zOk, inL, eq_self, used_is, sc_any, sc_c, sc_pp, sc_ref, sc_row, sc_agg, sc_tup, sc_fn, ScL, some_imp, List.forall_mem_map, Nat.le_refl, go_sem, simprocAttr]) (by simp only [ rA_len, rA_sc, hk, ScM, zOk, inL, eq_self, used_is, sc_any, sc_c, sc_pp, sc_ref, sc_row, sc_agg, sc_tup, sc_fn, ScL, some_imp, List.forall_mem_map, Nat.le_refl, go_sem, simprocAttr]) (by simp only [ rA_len, rA_sc, hk, ScM, zOk, inL, eq_self, used_is, sc_any, sc_c, sc_pp, sc_ref, sc_row, sc_agg, sc_tup, sc_fn, ScL, some_imp, List.forall_mem_map, Nat.le_refl, go_sem, simprocAttr]) (by simp only [ rA_len, rA_sc, hk, ScM, zOk, inL, eq_self, used_is, sc_any, sc_c, sc_pp, sc_ref, sc_row, sc_agg, sc_tup, sc_fn, ScL, some_imp, List.forall_mem_map, Nat.le_refl, go_sem, simprocAttr]) (by simp) fun hb hbL => ?_
    clear hb hbL
    refine walkBF (And.intro hvp (And.intro hkl e0)) ?_
    refine ⟨by first | exact .inr rfl | exact .inl rfl, ?_⟩; rw [Tryz.results86]; simp only [rA_ren, resOk, resV, go_sem, simprocAttr]
    exact .c _
  have e0 : decide (v < 0) = false := by simpa using hv0
  rw [if_neg hv0] at hR
  by_cases hv1 : 0 < v
  · rw [if_pos hv1] at hR
    subst hR
    have e1 : decide (v > 0) = true := by simpa using hv1
    refine VC.toldM ent_86 [] Tryz.func86 rfl Tryz.ntmps86 (by simp) (by simp only [ rA_len, rA_sc, hk, ScM, zOk, inL, eq_self, used_is, sc_any, sc_c, sc_pp, sc_ref, sc_row, sc_agg, sc_tup, sc_fn, ScL, some_imp, List.forall_mem_map, Nat.le_refl, go_sem, simprocAttr]) (by simp only [ rA_len, rA_sc, hk, ScM, zOk, inL, eq_self, used_is, sc_any, sc_c, sc_pp, sc_ref, sc_row, sc_agg, sc_tup, sc_fn, ScL, some_imp, List.forall_mem_map, Nat.le_refl, go_sem, simprocAttr]) (by simp only [ rA_len, rA_sc, hk, ScM, zOk, inL, eq_self, used_is, sc_any, sc_c, sc_pp, sc_ref, sc_row, sc_agg, sc_tup, sc_fn, ScL, some_imp, List.forall_mem_map, Nat.le_refl, go_sem, simprocAttr]) (by simp only [ rA_len, rA_sc, hk, ScM, zOk, inL, eq_self, used_is, sc_any, sc_c, sc_pp, sc_ref, sc_row, sc_agg, sc_tup, sc_fn, ScL, some_imp, List.forall_mem_map, Nat.le_refl, go_sem, simprocAttr]) (by simp) fun hb hbL => ?_
    clear hb hbL
    refine walkBF (And.intro hvp (And.intro hkl (And.intro e0 e1))) ?_
    refine ⟨by first | exact .inr rfl | exact .inl rfl, ?_⟩; rw [Tryz.results86]; simp only [rA_ren, resOk, resV, go_sem, simprocAttr]
    exact .c _
  have e1 : decide (v > 0) = false := by simpa using hv1
  rw [if_neg hv1] at hR
  obtain rfl : v = 0 := by omega
  obtain ⟨n, hn⟩ : ∃ n, s.nodes[p]? = some n := ⟨s.nodes[p], List.getElem?_eq_getElem hp⟩
  have hnp : (s.nodes.map NT.cells)[p]? = some n.cells := by rw [List.getElem?_map, hn]; rfl
  have hns := hs n (List.mem_of_getElem? hn)
  have hfl := hns.2.2.2.2.2.1
  have hset : (rA iPV kn).set p [.c (.v (.int .i64 (-1)))] = rA iPV (kn.set p (-1)) := rA_set kn p (-1)
  have hfa : fieldsAt s.nodes p = if n.kind = 9 then n.fields else [] := by rw [fieldsAt, hn]
  obtain ⟨K0, hK0⟩ : ∃ K, K = weighK (weighM s.nodes d) (fieldsAt s.nodes p) 1 (kn.set p (-1)) := ⟨_, rfl⟩
  rw [← hK0] at hR
  subst hR
  have hct := count_set_lt (v := -1) hv (by decide)
  refine VC.toldM ent_86 [] Tryz.func86 rfl Tryz.ntmps86 (by simp) (by simp only [ rA_len, rA_sc, hk, ScM, zOk, inL, eq_self, used_is, sc_any, sc_c, sc_pp, sc_ref, sc_row, sc_agg, sc_tup, sc_fn, ScL, some_imp, List.forall_mem_map, Nat.le_refl, go_sem, simprocAttr]) (by simp only [ rA_len, rA_sc, hk, ScM, zOk, inL, eq_self, used_is, sc_any, sc_c, sc_pp, sc_ref, sc_row, sc_agg, sc_tup, sc_fn, ScL, some_imp, List.forall_mem_map, Nat.le_refl, go_sem, simprocAttr]) (by simp only [ rA_len, rA_sc, hk, ScM, zOk, inL, eq_self, used_is, sc_any, sc_c, sc_pp, sc_ref, sc_row, sc_agg, sc_tup, sc_fn, ScL, some_imp, List.forall_mem_map, Nat.le_refl, go_sem, simprocAttr]) (by simp only [ rA_len, rA_sc, hk, ScM, zOk, inL, eq_self, used_is, sc_any, sc_c, sc_pp, sc_ref, sc_row, sc_agg, sc_tup, sc_fn, ScL, some_imp, List.forall_mem_map, Nat.le_refl, go_sem, simprocAttr]) (by simp) fun hb hbL => ?_
  clear hb hbL
  refine walkBF (And.intro hvp (And.intro hkl (And.intro e0 (And.intro e1 (And.intro hset (And.intro hnp @ncells_mk)))))) ?_
  refine VC.loop (ι := {x : Nat × (Int × List Int) // x.1 ≤ n.fields.length ∧ x.2.2.length = s.nodes.length ∧ KnOk x.2.2 ∧ x.2.2.count 0 < kn.count 0 ∧ 1 ≤ x.2.1 ∧ x.2.1 ≤ 1001 ∧ (if n.kind = 9 then weighK (weighM s.nodes d) (n.fields.drop x.1) x.2.1 x.2.2 else (x.2.1, x.2.2)) = K0})
    (fun q => [(1, .c (.v (.int .i64 (p : Int)))), (2, .row 1000000 s.nodes.length), (3, .ref 0 1 0 0), (7, .c (.v (.int .i64 q.1.2.1))), (34, .c (.sl 9 (n.fields.map FT.cells))), (35, .c (.v (.int .i64 (n.fields.length : Int)))), (36, .c (.v (.int .i64 (q.1.1 : Int))))])
    (fun q => [(0, ⟨false, 24, 2, [[.c (.sl 10 (s.nodes.map NT.cells)), .c (.v (.int .i64 s.root))]]⟩), (1000000, ⟨true, 3, 1, rA iPV q.1.2.2⟩)]) 800 (fun q => n.fields.length - q.1.1)
    ⟨(0, (1, kn.set p (-1))), Nat.zero_le _, by simp only []; rw [List.length_set]; exact hk, hko.set p (by decide), hct, by simp only []; omega, by simp only []; omega, by
      rw [hK0, hfa]
      split
      · rw [List.drop_zero]
      · rfl⟩ ?_ ?_
  · simp only [rA_len, rA_sc, hk, List.length_set, Weak, eq_self, used_is, sc_any, sc_c, sc_pp, sc_ref, sc_row, sc_agg, sc_fn, ScL, some_imp, List.forall_mem_map, go_sem, Int.reduceBEq, Int.reduceLE, Int.reduceLT, Int.reduceNeg, Nat.reduceAdd, Nat.reduceEqDiff, Nat.reduceLT, Nat.reduceLeDiff, Nat.reduceMul, Nat.reduceSub, reduceCtorEq, ↓reduceIte]
    try simp
  clear hK0 hct hv hvp hset
  rintro ⟨⟨i, m, kn'⟩, hi, hk', hko', hc', hm1, hm2, hK⟩
  simp only [] at hi hk' hko' hc' hm1 hm2 hK ⊢
  have hkl' : (rA iPV kn').length = s.nodes.length := by rw [rA_len, hk']
  refine walkG ?_
  refine VC.cond (by rfl) (by trivial) (fun hc2 => ?_) (fun hc2 => ?_)
  · have hil : i < n.fields.length := by simp at hc2; omega
    obtain ⟨f, hx⟩ : ∃ f, n.fields[i]? = some f := ⟨n.fields[i], List.getElem?_eq_getElem hil⟩
    have hxp : (n.fields.map FT.cells)[i]? = some f.cells := by rw [List.getElem?_map, hx]; rfl
    have hw : IntKind.i64.wrap ((i : Int) + 1) = (i : Int) + 1 := wrap64_id (by omega) (by omega)
    by_cases h9 : n.kind = 9
    · have e9 : (n.kind == 9) = true := by simpa using h9
      obtain ⟨h0, h1⟩ := hr n (List.mem_of_getElem? hn) h9 f (List.mem_of_getElem? hx)
      obtain ⟨q, hq⟩ : ∃ q : Nat, f.type = (q : Int) := ⟨f.type.toNat, by omega⟩
      have hI := ih q kn' (by omega) hk' hko' (by omega)
      obtain ⟨w1, w2, w3, w4, w5⟩ := weighM_ok s.nodes d q kn' hk' hko'
      rw [if_pos h9, (List.drop_eq_getElem_cons hil).trans (by rw [(List.getElem?_eq_some_iff.1 hx).2]), weighK, hq, Int.toNat_natCast] at hK
      obtain ⟨M, hM⟩ : ∃ M, M = weighM s.nodes d q kn' := ⟨_, rfl⟩
      rw [← hM] at hI hK w1 w2 w3 w4 w5
      clear ih hM
      have hww : IntKind.i64.wrap (m + M.1) = m + M.1 := wrap64_id (by omega) (by omega)
      have hkl2 : (rA iPV M.2).length = s.nodes.length := by rw [rA_len, w1]
      simp only [ST.av_eq, scells_mk, List.map_cons, List.map_nil] at hI
      refine walkBF (And.intro hxp (And.intro @fcells_mk (And.intro @len_cells (And.intro @take_cells (And.intro @take_cellsC (And.intro hnp (And.intro @ncells_mk (And.intro e9 (And.intro hkl' hq))))))))) ?_
      ((refine AO.step fun K hK => ?_; simp only [go_sem, Int.reduceBEq, Int.reduceLE, Int.reduceLT, Int.reduceNeg, Nat.reduceAdd, Nat.reduceEqDiff, Nat.reduceLT, Nat.reduceLeDiff, Nat.reduceMul, Nat.reduceSub, reduceCtorEq, ↓reduceIte, hkl', hq, rA_ren]; (first | refine gsel_go ?_ | skip)); refine .inr (.inr (.inl ⟨?vy1, [1000000], ?va1, ?vl1, ?vm1, ?cond1, ?cont1⟩)); (case cond1 => ((repeat' apply And.intro) <;> (try ((with_reducible show ToldM _ _ _ _ _ _); exact hI))); (all_goals first | trivial | (simp only [hkl', hq, rA_ren, go_sem, simprocAttr]; done) | (simp; done) | rfl)); (first | refine hK _ _ _ ?_ | (simp only [hkl', hq, rA_ren, go_sem, simprocAttr]; first | refine hK _ _ _ ?_ | refine ⟨rfl, hK _ _ _ ?_⟩)); clear hK K)
      refine walkGF (And.intro hww (And.intro hw hkl2)) ?_
      refine .next ⟨(i + 1, (min (m + M.1) 1001, M.2)), by simp only []; omega, w1, w2, by simp only []; omega, by simp only []; omega, by simp only []; omega, by simp only []; rw [if_pos h9]; exact hK⟩ ?_ (by simp only []; omega)
      simp only [rA_len, rA_sc, rA_ren, w1, Weak, eq_self, used_is, sc_any, sc_c, sc_pp, sc_ref, sc_row, sc_agg, sc_fn, ScL, some_imp, List.forall_mem_map, go_sem, Int.reduceBEq, Int.reduceLE, Int.reduceLT, Int.reduceNeg, Nat.reduceAdd, Nat.reduceEqDiff, Nat.reduceLT, Nat.reduceLeDiff, Nat.reduceMul, Nat.reduceSub, reduceCtorEq, ↓reduceIte]
      exact ⟨cI (by omega), Nat.le_refl _⟩
    · have e9 : (n.kind == 9) = false := by simpa using h9
      rw [if_neg h9] at hK
      refine walkBF (And.intro hxp (And.intro @fcells_mk (And.intro @len_cells (And.intro @take_cells (And.intro @take_cellsC (And.intro hnp (And.intro @ncells_mk (And.intro e9 hw)))))))) ?_
      refine .next ⟨(i + 1, (m, kn')), by simp only []; omega, hk', hko', hc', hm1, hm2, by simp only []; rw [if_neg h9]; exact hK⟩ ?_ (by simp only []; omega)
      simp only [rA_len, rA_sc, hk', Weak, eq_self, used_is, sc_any, sc_c, sc_pp, sc_ref, sc_row, sc_agg, sc_fn, ScL, some_imp, List.forall_mem_map, go_sem, Int.reduceBEq, Int.reduceLE, Int.reduceLT, Int.reduceNeg, Nat.reduceAdd, Nat.reduceEqDiff, Nat.reduceLT, Nat.reduceLeDiff, Nat.reduceMul, Nat.reduceSub, reduceCtorEq, ↓reduceIte]
      exact ⟨cI (by omega), Nat.le_refl _⟩
  · have hie : i = n.fields.length := by simp at hc2; omega
    have hf : K0 = (m, kn') := by
      rw [← hK]
      split
      · rw [hie, List.drop_length, weighK]
      · rfl
    subst hf
    have hset : (rA iPV kn').set p [.c (.v (.int .i64 m))] = rA iPV (kn'.set p m) := rA_set kn' p m
    obtain ⟨u, hu⟩ : ∃ u, kn'[p]? = some u := ⟨kn'[p]'(by omega), List.getElem?_eq_getElem (by omega)⟩
    have hup : (rA iPV kn')[p]? = some [.c (.v (.int .i64 u))] := rA_at hu
    refine walkGF (And.intro hkl' (And.intro hup hset)) ?_
    refine ⟨by first | exact .inr rfl | exact .inl rfl, ?_⟩; rw [Tryz.results86]; simp only [rA_ren, resOk, resV, go_sem, simprocAttr]
    exact .c _

theorem namesM_take {ns : List NT} {i : Nat} {n : NT} (h : ns[i]? = some n) : namesM (ns.take (i + 1)) = namesM (ns.take i) ++ (if namedK n.kind = true then [n.name] else []) := by
  rw [List.take_add_one, h]
  simp only [namesM, List.filter_append, List.map_append, Option.toList_some]
  congr 1
  by_cases hk : namedK n.kind = true
  · simp [hk]
  · simp [hk]
theorem rA_rep (N : Nat) : rA iPV (List.replicate N 0) = List.replicate N [AV.c (.v (.int .i64 0))] := by
  simp [rA, iPV]
theorem ordered_kids {s : ST} (h : orderedM s = true) : ∀ n ∈ s.nodes, ∀ k ∈ kidsN n, 0 ≤ k ∧ k < (s.nodes.length : Int) := by
  intro n hn k hk
  obtain ⟨i, hi⟩ := List.getElem?_of_mem hn
  have := (ordered_stand h).1 i n (Nat.zero_le _) (List.getElem?_eq_some_iff.1 hi).1 hi k hk
  exact ⟨this.1, this.2.1⟩
theorem names_sm {ns : List NT} {N : Nat} (h : ∀ n ∈ ns, n.sm N) : ∀ x ∈ namesM ns, x.length ≤ N := by
  intro x hx
  obtain ⟨n, hn, rfl⟩ := List.mem_map.1 hx
  exact (h n (List.mem_filter.1 hn).1).1
theorem names_len (ns : List NT) : (namesM ns).length ≤ ns.length := by
  unfold namesM
  rw [List.length_map]
  exact List.length_filter_le _ _
set_option maxRecDepth 100000 in
set_option maxHeartbeats 1600000 in
theorem sRight_told (s : ST) (hsm : s.sm 1000000) : Told Tryz.prog 47 [s.av] (.c (.v (.bool (rightM s)))) := by
  obtain ⟨V, hV⟩ : ∃ V, V = rightM s := ⟨_, rfl⟩
  rw [← hV]
  unfold rightM at hV
  obtain ⟨hl, hs⟩ := hsm
  have hO := ordered_told s hl hs
  simp only [ST.av_eq, scells_mk, List.map_cons, List.map_nil] at hO
  rw [ST.av_eq, scells_mk]
  cases ho : orderedM s with
  | false =>
    rw [ho] at hO hV
    obtain rfl : V = false := hV
    refine VC.told ent_47 Tryz.func47 rfl Tryz.ntmps47 (by simp) (by first | rfl | simp [AV.pureB, AV.pureL, pureL_c, pures]) (by first | rfl | simp [AV.pureB, AV.pureL, pureL_c, pures]) fun hb => ?_
    clear hb
    refine walkG ?_
    refine walkC (hO) ?_
    refine walkB ?_
    refine ⟨by first | exact .inr rfl | exact .inl rfl, ?_⟩; rw [Tryz.results47]; simp only [resOk, resV, go_sem, simprocAttr]
    exact .c _
  | true =>
  rw [ho] at hO hV
  have hki := ordered_kids ho
  rw [Bool.true_and] at hV
  obtain ⟨R, hR⟩ : ∃ R, R = rightL s.nodes s.nodes 0 (List.replicate s.nodes.length 0) := ⟨_, rfl⟩
  rw [← hR] at hV
  have hnm : ∀ i, (namesM (s.nodes.take i)).length ≤ 1000000 := fun i => by
    have := names_len (s.nodes.take i)
    rw [List.length_take] at this
    omega
  refine VC.told ent_47 Tryz.func47 rfl Tryz.ntmps47 (by simp) (by first | rfl | simp [AV.pureB, AV.pureL, pureL_c, pures]) (by first | rfl | simp [AV.pureB, AV.pureL, pureL_c, pures]) fun hb => ?_
  clear hb
  refine walkG ?_
  refine walkC (hO) ?_
  refine walkB ?_
  refine VC.nil 3 9 1 (by rfl) (by trivial) (by rfl) ?_
  refine VC.loop (ι := {x : Nat × List Int // x.1 ≤ s.nodes.length ∧ x.2.length = s.nodes.length ∧ KnOk x.2 ∧ rightL s.nodes (s.nodes.drop x.1) x.1 x.2 = R})
    (fun q => [(1, .ref 0 1 0 0), (3, .row 120 (namesM (s.nodes.take q.1.1)).length), (4, .row 72 s.nodes.length), (15, .c (.sl 10 (s.nodes.map NT.cells))), (16, .c (.v (.int .i64 (s.nodes.length : Int)))), (17, .c (.v (.int .i64 (q.1.1 : Int))))])
    (fun q => [(0, ⟨false, 24, 2, [[.c (.sl 10 (s.nodes.map NT.cells)), .c (.v (.int .i64 s.root))]]⟩), (72, ⟨true, 3, 1, rA iPV q.1.2⟩), (120, ⟨true, 9, 1, rA sPV (namesM (s.nodes.take q.1.1))⟩)]) 800 (fun q => s.nodes.length - q.1.1)
    ⟨(0, List.replicate s.nodes.length 0), Nat.zero_le _, by simp, fun x hx => by obtain rfl := (List.mem_replicate.1 hx).2; decide, by rw [List.drop_zero]; exact hR.symm⟩ ?_ ?_
  · simp only [rA_len, rA_sc, rA_rep, List.length_replicate, Weak, eq_self, used_is, sc_any, sc_c, sc_pp, sc_ref, sc_row, sc_agg, sc_fn, ScL, some_imp, List.forall_mem_map, go_sem, Int.reduceBEq, Int.reduceLE, Int.reduceLT, Int.reduceNeg, Nat.reduceAdd, Nat.reduceEqDiff, Nat.reduceLT, Nat.reduceLeDiff, Nat.reduceMul, Nat.reduceSub, reduceCtorEq, ↓reduceIte]
    refine ⟨rfl, rfl, ⟨Nat.le_refl _, Nat.le_refl _⟩, fun e he x hx => ?_⟩
    obtain rfl := (List.mem_replicate.1 he).2
    obtain rfl := List.mem_singleton.1 hx
    exact .c
  clear hR hO
  rintro ⟨⟨i, kn⟩, hi, hk, hko, hR⟩
  simp only [] at hi hk hko hR ⊢
  have hkl : (rA iPV kn).length = s.nodes.length := by rw [rA_len, hk]
  refine walkG ?_
  refine VC.cond (by rfl) (by trivial) (fun hc => ?_) (fun hc => ?_)
  · have hlt : i < s.nodes.length := by simp at hc; omega
    obtain ⟨n, hn⟩ : ∃ n, s.nodes[i]? = some n := ⟨s.nodes[i], List.getElem?_eq_getElem hlt⟩
    have hnp : (s.nodes.map NT.cells)[i]? = some n.cells := by rw [List.getElem?_map, hn]; rfl
    have hw : IntKind.i64.wrap ((i : Int) + 1) = (i : Int) + 1 := wrap64_id (by omega) (by omega)
    have hmem := List.mem_of_getElem? hn
    have hNd := node_told s n (hs n hmem) fun h13 k hk => hki n hmem k (by rw [kidsN, if_neg (by omega), if_neg (by omega), if_pos h13]; exact hk)
    have hNm := named_told n.kind
    have hW := weight_told s hl hs (fun m hm h9 f hf => hki m hm f.type (by rw [kidsN, if_pos h9]; exact List.mem_map.2 ⟨f, hf, rfl⟩)) (s.nodes.length + 1) i kn hlt hk hko (by have := List.count_le_length (a := (0 : Int)) (l := kn); omega)
    obtain ⟨w1, w2, w3, w4, w5⟩ := weighM_ok s.nodes (s.nodes.length + 1) i kn hk hko
    rw [(List.drop_eq_getElem_cons hlt).trans (by rw [(List.getElem?_eq_some_iff.1 hn).2]), rightL] at hR
    obtain ⟨M, hM⟩ : ∃ M, M = weighM s.nodes (s.nodes.length + 1) i kn := ⟨_, rfl⟩
    rw [← hM] at hW hR w1 w2 w3 w4 w5
    clear hM
    simp only [ST.av_eq, scells_mk, NT.av_eq, ncells_mk, List.map_cons, List.map_nil] at hNd hW
    have hkl2 : (rA iPV M.2).length = s.nodes.length := by rw [rA_len, w1]
    have hnl : (rA sPV (namesM (s.nodes.take i))).length = (namesM (s.nodes.take i)).length := rA_len _ _
    have hnt := namesM_take hn
    have hni := hnm i
    cases hnn : nodeM s.nodes n with
    | false =>
      rw [hnn] at hNd hR
      obtain rfl : R = false := hR.symm
      obtain rfl : V = false := hV
      refine walkGF (And.intro hnp (And.intro @ncells_mk hkl)) ?_
      refine walkC (hNd) ?_
      refine walkB ?_
      refine ⟨by first | exact .inr rfl | exact .inl rfl, ?_⟩; rw [Tryz.results47]; simp only [resOk, resV, go_sem, simprocAttr]
      exact .c _
    | true =>
      rw [hnn] at hNd hR
      rw [Bool.true_and] at hR
      refine walkGF (And.intro hnp (And.intro @ncells_mk hkl)) ?_
      refine walkC (hNd) ?_
      refine walkG ?_
      ((refine AO.step fun K hK => ?_; simp only [go_sem, Int.reduceBEq, Int.reduceLE, Int.reduceLT, Int.reduceNeg, Nat.reduceAdd, Nat.reduceEqDiff, Nat.reduceLT, Nat.reduceLeDiff, Nat.reduceMul, Nat.reduceSub, reduceCtorEq, ↓reduceIte, hkl, rA_ren]; (first | refine gsel_go ?_ | skip)); refine .inr (.inr (.inl ⟨?vy1, [72], ?va1, ?vl1, ?vm1, ?cond1, ?cont1⟩)); (case cond1 => ((repeat' apply And.intro) <;> (try ((with_reducible show ToldM _ _ _ _ _ _); exact hW))); (all_goals first | trivial | (simp only [hkl, rA_ren, go_sem, simprocAttr]; done) | (simp; done) | rfl)); (first | refine hK _ _ _ ?_ | (simp only [hkl, rA_ren, go_sem, simprocAttr]; first | refine hK _ _ _ ?_ | refine ⟨rfl, hK _ _ _ ?_⟩)); clear hK K)
      refine walkG ?_
      refine VC.cond (by rfl) (by trivial) (fun hc2 => ?_) (fun hc2 => ?_)
      · have hf : V = false := by
          have : ¬ M.1 ≤ 1000 := by simp at hc2; omega
          rw [hV, ← hR]
          simp [this]
        subst hf
        refine walkG ?_
        refine ⟨by first | exact .inr rfl | exact .inl rfl, ?_⟩; rw [Tryz.results47]; simp only [resOk, resV, go_sem, simprocAttr]
        exact .c _
      have hm1 : M.1 ≤ 1000 := by simp at hc2; omega
      have hR2 : rightL s.nodes (s.nodes.drop (i + 1)) (i + 1) M.2 = R := by
        rw [← hR]
        simp [hm1]
      refine walkGF (hkl2) ?_
      refine walkC (hNm) ?_
      refine walkG ?_
      refine VC.cond (by rfl) (by trivial) (fun hc3 => ?_) (fun hc3 => ?_)
      · rw [if_pos hc3] at hnt
        have hr : rA sPV (namesM (s.nodes.take i)) ++ [[.c (.v (.string (str n.name)))]] = rA sPV (namesM (s.nodes.take (i + 1))) := by
          rw [hnt]
          exact rA_one sPV _ n.name
        have hl2 : (namesM (s.nodes.take (i + 1))).length = (namesM (s.nodes.take i)).length + 1 := by rw [hnt]; simp
        refine walkGF (And.intro hnl (And.intro hr hw)) ?_
        refine .next ⟨(i + 1, M.2), by simp only []; omega, w1, w2, hR2⟩ ?_ (by simp only []; omega)
        simp only [rA_len, rA_sc, rA_ren, w1, hl2, Weak, eq_self, used_is, sc_any, sc_c, sc_pp, sc_ref, sc_row, sc_agg, sc_fn, ScL, some_imp, List.forall_mem_map, go_sem, Int.reduceBEq, Int.reduceLE, Int.reduceLT, Int.reduceNeg, Nat.reduceAdd, Nat.reduceEqDiff, Nat.reduceLT, Nat.reduceLeDiff, Nat.reduceMul, Nat.reduceSub, reduceCtorEq, ↓reduceIte]
        exact ⟨cI (by omega), Nat.le_refl _, Nat.le_refl _⟩
      · rw [if_neg (by rw [hc3]; simp), List.append_nil] at hnt
        refine walkGF (hw) ?_
        refine .next ⟨(i + 1, M.2), by simp only []; omega, w1, w2, hR2⟩ ?_ (by simp only []; omega)
        simp only [rA_len, rA_sc, rA_ren, w1, hnt, Weak, eq_self, used_is, sc_any, sc_c, sc_pp, sc_ref, sc_row, sc_agg, sc_fn, ScL, some_imp, List.forall_mem_map, go_sem, Int.reduceBEq, Int.reduceLE, Int.reduceLT, Int.reduceNeg, Nat.reduceAdd, Nat.reduceEqDiff, Nat.reduceLT, Nat.reduceLeDiff, Nat.reduceMul, Nat.reduceSub, reduceCtorEq, ↓reduceIte]
        exact ⟨cI (by omega), Nat.le_refl _, Nat.le_refl _⟩
  · have hie : i = s.nodes.length := by simp at hc; omega
    have hf : R = true := by
      rw [← hR, hie, List.drop_length, rightL]
    subst hf
    rw [Bool.true_and] at hV
    have htk : s.nodes.take i = s.nodes := by rw [hie, List.take_length]
    rw [htk]
    have hnm0 := hnm i
    rw [htk] at hnm0
    have hD := different_told (g := 89) (rule := fullM) (namesM s.nodes) (by omega) fun x hx => full_told x (by have := names_sm hs x hx; omega)
    rw [← hV] at hD
    have hrl : (rA sPV (namesM s.nodes)).length = (namesM s.nodes).length := rA_len _ _
    refine walkGF (hrl) ?_
    (refine AO.step fun K hK => ?_; simp only [go_sem, Int.reduceBEq, Int.reduceLE, Int.reduceLT, Int.reduceNeg, Nat.reduceAdd, Nat.reduceEqDiff, Nat.reduceLT, Nat.reduceLeDiff, Nat.reduceMul, Nat.reduceSub, reduceCtorEq, ↓reduceIte, hrl]; (first | refine gsel_go ?_ | skip))
    refine .inr (.inl ⟨.c (.v (.bool V)), [.c (.sl 1 ((namesM s.nodes).map sPV)), .fn (.func 89) [] []], [120], ⟨by simp [AV.pureL, AV.pureB], rfl, fun k x z h5 h6 => ?_, rfl, hD⟩, hK _ _ _ ?_⟩)
    · match k with
      | 0 =>
        obtain rfl := Option.some.inj h5
        obtain rfl := Option.some.inj h6
        exact View.row (B := ⟨true, 9, 1, rA sPV (namesM s.nodes)⟩) (es := (namesM s.nodes).map sPV) rfl rfl hrl (rA_pv _ _)
      | 1 => obtain rfl := Option.some.inj h5; obtain rfl := Option.some.inj h6; exact .same _
      | k + 2 => simp at h5
    clear hK K
    refine walkG ?_
    refine ⟨by first | exact .inr rfl | exact .inl rfl, ?_⟩; rw [Tryz.results47]; simp only [resOk, resV, go_sem, simprocAttr]
    exact .c _

theorem right_nodes {s : ST} (h : rightM s = true) : ∀ n ∈ s.nodes, nodeM s.nodes n = true := by
  have key : ∀ (r : List NT) (p : Nat) (kn : List Int), rightL s.nodes r p kn = true → ∀ n ∈ r, nodeM s.nodes n = true := by
    intro r
    induction r with
    | nil => simp
    | cons x xs ih =>
      intro p kn hr n hn
      rw [rightL] at hr
      simp only [Bool.and_eq_true] at hr
      rcases List.mem_cons.1 hn with rfl | hn
      · exact hr.1
      · exact ih _ _ hr.2.2 n hn
  unfold rightM at h
  simp only [Bool.and_eq_true] at h
  exact key _ _ _ h.2.1

def zJ : JT := .mk 0 0 [] [] []
def jget (t : JT) (key : List UInt8) : Option JT :=
  match t with
  | .mk k n s ks xs => if k = 6 ∧ 0 ≤ idxS key ks then xs[(idxS key ks).toNat]? else none
theorem idxS_le (key : List UInt8) (ks : List (List UInt8)) : idxS key ks < ks.length ∧ -1 ≤ idxS key ks := by
  unfold idxS
  cases h : ks.findIdx? (fun k => decide (key = k)) with
  | none => simp only []; omega
  | some i =>
    have := (List.findIdx?_eq_some_iff_getElem.1 h).1
    simp only []
    omega
theorem zJ_cells : zJ.cells = [.v (.int .i64 0), .v (.int .i64 0), .v (.string ⟨#[]⟩), .sl 5 [], .sl 1 []] := by simp [zJ, JT.cells, JT.cellsL]; rfl
theorem frz_zJ {K : Nat → Bool} (h : Nat → Option Blkd) : Frz K h (.agg [.c (.v (.int .i64 0)), .c (.v (.int .i64 0)), .c (.v (.string ⟨#[]⟩)), .c (.v (.slice none 0 0)), .c (.v (.slice none 0 0))]) (.agg (List.map AV.c zJ.cells)) := by
  rw [zJ_cells]
  exact Frz.aggL (.cons (.c _) (.cons (.c _) (.cons (.c _) (.cons (.nil 5) (.cons (.nil 1) .nil)))))
set_option maxRecDepth 100000 in
set_option maxHeartbeats 400000 in
theorem get_told (t : JT) (key : List UInt8) : Told Tryz.prog 179 [t.av, .c (.v (.string (str key)))] (.tup [((jget t key).getD zJ).av, .c (.v (.bool (jget t key).isSome))]) := by
  cases t with
  | mk k n s ks xs =>
  refine VC.told ent_179 Tryz.func179 rfl Tryz.ntmps179 (by simp) (by rfl) (by simp [AV.pureB, AV.pureL, JT.av, pureL_c]) fun hb => ?_
  simp only [JT.av, cells_mk, List.map_cons, List.map_nil, abd_agg, abd_c, pbd_v, pbd_sl, List.mem_cons, List.not_mem_nil, or_false, forall_eq_or_imp, forall_eq, true_and, List.length_map] at hb ⊢
  have hx1 := hb.1.1.1
  clear hb
  have hil := idxS_le key ks
  obtain ⟨i, hi⟩ : ∃ i, i = idxS key ks := ⟨_, rfl⟩
  have hcall := sindex_told ks key
  have hg : jget (.mk k n s ks xs) key = if k = 6 ∧ 0 ≤ i then xs[i.toNat]? else none := by rw [hi]; rfl
  rw [hg]
  rw [← hi] at hcall hil
  clear hg hi
  refine walkG ?_
  (refine AO.step fun K hK => ?_; simp only [go_sem, Int.reduceBEq, Int.reduceLE, Int.reduceLT, Int.reduceNeg, Nat.reduceAdd, Nat.reduceEqDiff, Nat.reduceLT, Nat.reduceLeDiff, Nat.reduceMul, Nat.reduceSub, reduceCtorEq, ↓reduceIte]; (first | refine gsel_go ?_ | skip))
  refine .inl ⟨_, hcall, hK _ _ _ ?_⟩
  clear hK K
  refine walkG ?_
  refine VC.cond (by rfl) (by trivial) (fun hc => ?_) (fun hc => ?_)
  · have hn : (if k = 6 ∧ 0 ≤ i then xs[i.toNat]? else none) = none := by
      split
      · rename_i h
        rw [List.getElem?_eq_none]
        simp [h.1, Int.not_lt.2 h.2] at hc
        omega
      · rfl
    rw [hn]
    refine walkG ?_
    refine ⟨.inr rfl, ?_⟩
    rw [Tryz.results179]
    simp only [resOk, resV, go_sem, simprocAttr]
    exact ⟨frz_zJ _, .c _⟩
  · have hk : k = 6 ∧ 0 ≤ i ∧ i < xs.length := by
      simp at hc
      omega
    obtain ⟨rfl, h0, h1⟩ := hk
    obtain ⟨x, hx⟩ : ∃ x, xs[i.toNat]? = some x := ⟨xs[i.toNat], List.getElem?_eq_getElem (by omega)⟩
    rw [if_pos ⟨rfl, h0⟩, hx]
    (repeat (first | refine pass ?_ | refine VC.region (by rfl) (by rfl) ?_ | (refine AO.step fun K hK => ?_; simp only [List.getElem?_map, hx, len_cells, take_cells, take_cellsC, go_sem, Int.reduceBEq, Int.reduceLE, Int.reduceLT, Int.reduceNeg, Nat.reduceAdd, Nat.reduceEqDiff, Nat.reduceLT, Nat.reduceLeDiff, Nat.reduceMul, Nat.reduceSub, reduceCtorEq, ↓reduceIte]; (first | refine gsel_skip ?_ | refine gsel_go ?_ | skip); (first | refine hK _ _ _ ?_ | refine ⟨by first | omega | exact ⟨_, rfl, rfl⟩ | exact fun _ => ⟨_, rfl, rfl⟩ | (intro h; simp only [List.getElem?_map, hx, len_cells, take_cells, take_cellsC, h, true_and]; omega) | (clear hK; intro h; simp_all <;> omega), hK _ _ _ ?_⟩); clear hK K) | refine VC.draw mixP (by rfl) (by rfl) ?_ | refine ⟨okd_of (by kernel_rfl), ?_⟩ | refine BQ.other (by decide) ?_ | refine VC.seq ?_ | refine AO.nil ?_ | refine VC.block ?_))
    refine ⟨.inr rfl, ?_⟩
    rw [Tryz.results179]
    simp only [len_cells, take_cellsC, resOk, resV, go_sem, simprocAttr]
    exact ⟨Frz.cs _ _, .c _⟩

/-! A text's characters as bytes. -/
def uchr (l : List UInt8) (p : Nat) : Nat := uval l p (ulen l p - 1)
def latF (l : List UInt8) (p : Nat) : Option (List UInt8) :=
  if h : p < l.length then (if h2 : uerr l p = 0 ∧ 0 < ulen l p then (if uchr l p ≤ 255 then (latF l (p + ulen l p)).map (UInt8.ofNat (uchr l p) :: ·) else none) else none) else some []
termination_by l.length - p
theorem latF_end {l : List UInt8} {p : Nat} (h : ¬ p < l.length) : latF l p = some [] := by rw [latF, dif_neg h]
theorem latF_bad {l : List UInt8} {p : Nat} (h : p < l.length) (h2 : uerr l p ≠ 0) : latF l p = none := by rw [latF, dif_pos h, dif_neg (fun x => h2 x.1)]
theorem latF_next {l : List UInt8} {p : Nat} (h : p < l.length) (h2 : uerr l p = 0) : latF l p = if uchr l p ≤ 255 then (latF l (p + ulen l p)).map (UInt8.ofNat (uchr l p) :: ·) else none := by rw [latF, dif_pos h, dif_pos ⟨h2, (ulen_bound h2).1⟩]
/-! Numbers as bits of floating ones. -/
def nBits (u : Nat) : Nat := if u = 0 then 0 else Nat.log2 u + 1
def roundM (u drop : Nat) : Nat :=
  if drop = 0 then u else if 64 < drop then 0 else
    (if 2 ^ (drop - 1) < u % 2 ^ drop ∨ (u % 2 ^ drop = 2 ^ (drop - 1) ∧ u / 2 ^ drop % 2 = 1) then u / 2 ^ drop + 1 else u / 2 ^ drop)
def mantM (u digits : Nat) : Nat := if nBits u - 1 ≤ digits then u * 2 ^ (digits - (nBits u - 1)) else roundM u (nBits u - 1 - digits)
def bitsM (n : Int) (sign bias digits : Nat) : Nat := if n = 0 then 0 else (if n < 0 then sign else 0) + (bias + (nBits n.natAbs - 1) - 1) * 2 ^ digits + mantM n.natAbs digits
def dblM (n : Int) : Nat := bitsM n 9223372036854775808 1023 52
def fltM (n : Int) : Nat := bitsM n 2147483648 127 23
/-! What trees say. -/
def compK (k : Int) : Bool := k == 9 || k == 11 || k == 12 || k == 13
def vz (k : Int) : VT := .mk k 0 0 [] [] []
def JT.kd : JT → Int | .mk k _ _ _ _ => k
def JT.num : JT → Int | .mk _ n _ _ _ => n
def JT.txt : JT → List UInt8 | .mk _ _ s _ _ => s
def JT.keys : JT → List (List UInt8) | .mk _ _ _ ks _ => ks
def JT.its : JT → List JT | .mk _ _ _ _ xs => xs
def numS (k : Int) (j : JT) : VT × Bool :=
  if k = 3 then (.mk 3 j.num 0 [] [] [], j.kd == 3 && (decide (-2147483648 ≤ j.num) && decide (j.num ≤ 2147483647)))
  else if k = 4 then (.mk 4 j.num 0 [] [] [], j.kd == 3)
  else if k = 5 then (.mk 5 0 (fltM j.num : Int) [] [] [], j.kd == 3)
  else (.mk k 0 (dblM j.num : Int) [] [] [], j.kd == 3)
def textS (n : NT) (j : JT) : VT × Bool :=
  if j.kd = 4 then
    (if n.kind = 8 then (.mk 8 0 0 j.txt [] [], decide (j.txt.length ≤ 20000))
    else match latF j.txt 0 with
      | none => (vz n.kind, false)
      | some b => (.mk n.kind 0 0 b [] [], decide (b.length ≤ 20000) && (n.kind == 7 || (b.length : Int) == n.size)))
  else (vz n.kind, false)
def leafS (n : NT) (j : JT) : VT × Bool :=
  if n.kind = 1 then (vz 1, j.kd == 1)
  else if n.kind = 2 then (.mk 2 j.num 0 [] [] [], j.kd == 2)
  else if n.kind = 3 ∨ n.kind = 4 ∨ n.kind = 5 ∨ n.kind = 6 then numS n.kind j
  else if n.kind = 10 then (.mk 10 (idxS j.txt n.symbols) 0 [] [] [], j.kd == 4 && decide (0 ≤ idxS j.txt n.symbols))
  else textS n j
def Say := Int → JT → Nat → VT × Bool × Nat
def fieldJ (j : JT) (f : FT) : Option JT := match jget j f.name with | some i => some i | none => if f.has = true then some f.dflt else none
def recF (f : Say) (j : JT) : List FT → Nat → Option (List VT) × Nat
  | [], c => (some [], c)
  | x :: xs, c => match fieldJ j x with
    | none => (none, c)
    | some i => if (f x.type i c).2.1 = true then ((recF f j xs (f x.type i c).2.2).1.map ((f x.type i c).1 :: ·), (recF f j xs (f x.type i c).2.2).2) else (none, (f x.type i c).2.2)
def itsF (f : Say) (a : Int) : List JT → Nat → Option (List VT) × Nat
  | [], c => (some [], c)
  | i :: is, c => if (f a i c).2.1 = true then ((itsF f a is (f a i c).2.2).1.map ((f a i c).1 :: ·), (itsF f a is (f a i c).2.2).2) else (none, (f a i c).2.2)
def itemsF (f : Say) (a : Int) (j : JT) (c : Nat) : Option (List VT) × Nat := if 300 < j.its.length ∨ j.keys.any (fun k => decide (20000 < k.length)) = true then (none, c) else itsF f a j.its c
def compS (f : Say) (n : NT) (j : JT) (c : Nat) : VT × Bool × Nat :=
  if n.kind = 9 then (.mk 9 0 0 [] ((recF f j n.fields c).1.getD []) [], (recF f j n.fields c).1.isSome && j.kd == 6, (recF f j n.fields c).2)
  else if n.kind = 11 then (.mk 11 0 0 [] ((itemsF f n.items j c).1.getD []) [], (itemsF f n.items j c).1.isSome && j.kd == 5, (itemsF f n.items j c).2)
  else if n.kind = 12 then (.mk 12 0 0 [] ((itemsF f n.items j c).1.getD []) j.keys, (itemsF f n.items j c).1.isSome && j.kd == 6, (itemsF f n.items j c).2)
  else match n.branches[0]? with
    | none => (vz 13, false, c)
    | some b => (.mk 13 0 0 [] [(f b j c).1] [], (f b j c).2.1, (f b j c).2.2)
def sayM (ns : List NT) : Nat → Say
  | 0 => fun a j c => match ns[a.toNat]? with
    | none => (vz 0, false, c)
    | some n => if compK n.kind = true ∨ 1000 < c + 1 then (vz 0, false, c + 1) else ((leafS n j).1, (leafS n j).2, c + 1)
  | d + 1 => fun a j c => match ns[a.toNat]? with
    | none => (vz 0, false, c)
    | some n => if 1000 < c + 1 then (vz 0, false, c + 1) else if compK n.kind = true then compS (sayM ns d) n j (c + 1) else ((leafS n j).1, (leafS n j).2, c + 1)
/-! What is said is a value. -/
theorem rshape_parts {k n : Int} {s : List UInt8} {ks : List (List UInt8)} {xs : List JT} (h : rshape (.mk k n s ks xs) = true) :
    (k = 2 → n = 0 ∨ n = 1) ∧ isRight s = true ∧ (k = 6 → ks.length = xs.length) ∧ (∀ y ∈ ks, isRight y = true) ∧ (∀ x ∈ xs, rshape x = true) := by
  have hall : ∀ l : List JT, rshapes l = true → ∀ x ∈ l, rshape x = true := by
    intro l
    induction l with
    | nil => simp
    | cons y ys ih =>
      intro h x hx
      rw [rshapes, Bool.and_eq_true] at h
      rcases List.mem_cons.1 hx with rfl | hx
      · exact h.1
      · exact ih h.2 x hx
  rw [rshape] at h
  simp only [Bool.and_eq_true, Bool.not_eq_true'] at h
  obtain ⟨⟨h1, h2, _⟩, h3⟩ := h
  unfold rfail at h1
  simp only [Bool.or_eq_false_iff, Bool.and_eq_false_iff, decide_eq_false_iff_not, Bool.not_eq_false'] at h1
  obtain ⟨⟨⟨⟨⟨⟨⟨⟨_, _⟩, _⟩, g2⟩, _⟩, gs⟩, _⟩, _⟩, g6⟩ := h1
  refine ⟨fun e => ?_, gs, fun e => ?_, fun y hy => List.all_eq_true.1 h2 y hy, hall xs h3⟩
  · rcases g2 with (h | h) | h
    · exact absurd e h
    · exact .inl (by omega)
    · exact .inr (by omega)
  · rcases g6 with h | h
    · exact absurd e h
    · omega
theorem jget_shape {j i : JT} {key : List UInt8} (h : rshape j = true) (hg : jget j key = some i) : rshape i = true := by
  cases j with
  | mk k n s ks xs =>
  unfold jget at hg
  simp only [] at hg
  split at hg
  · exact (rshape_parts h).2.2.2.2 i (List.mem_of_getElem? hg)
  · simp at hg
theorem jinr_num {k n : Int} {s : List UInt8} {ks : List (List UInt8)} {xs : List JT} (h : (JT.mk k n s ks xs).inr) : -9223372036854775808 ≤ n ∧ n ≤ 9223372036854775807 := by
  simp only [JT.inr] at h
  exact h.1
theorem jinr_mem {k n : Int} {s : List UInt8} {ks : List (List UInt8)} {xs : List JT} (h : (JT.mk k n s ks xs).inr) : ∀ x ∈ xs, x.inr := by
  simp only [JT.inr] at h
  exact inrL_mem h.2
theorem jget_inr {j i : JT} {key : List UInt8} (h : j.inr) (hg : jget j key = some i) : i.inr := by
  cases j with
  | mk k n s ks xs =>
  unfold jget at hg
  simp only [] at hg
  split at hg
  · exact jinr_mem h i (List.mem_of_getElem? hg)
  · simp at hg
theorem rshape_acc {j : JT} (h : rshape j = true) (hi : j.inr) : (j.kd = 2 → j.num = 0 ∨ j.num = 1) ∧ isRight j.txt = true ∧ -9223372036854775808 ≤ j.num ∧ j.num ≤ 9223372036854775807 := by
  cases j with
  | mk k n s ks xs =>
  obtain ⟨p2, ps, _, _, _⟩ := rshape_parts h
  exact ⟨p2, ps, jinr_num hi⟩
theorem nBits_lt {u k : Nat} (h : u < 2 ^ k) : nBits u ≤ k := by
  unfold nBits
  split
  · omega
  · rename_i h0
    have := (Nat.log2_lt h0).2 h
    omega
theorem nBits_ge (u : Nat) : u < 2 ^ nBits u := by
  unfold nBits
  split
  · rename_i h; subst h; decide
  · exact Nat.lt_log2_self
theorem roundM_le (u k : Nat) {drop : Nat} (hd : 0 < drop) (h : u < 2 ^ (k + drop)) : roundM u drop ≤ 2 ^ k := by
  have hlt : u / 2 ^ drop < 2 ^ k := by
    rw [Nat.div_lt_iff_lt_mul (Nat.two_pow_pos drop), ← Nat.pow_add]
    exact h
  unfold roundM
  rw [if_neg (by omega)]
  split
  · exact Nat.zero_le _
  · split <;> omega
theorem mantM_le (u digits : Nat) (h0 : u ≠ 0) : mantM u digits ≤ 2 ^ (digits + 1) := by
  have hg := nBits_ge u
  have h1 : 1 ≤ nBits u := by unfold nBits; rw [if_neg h0]; omega
  unfold mantM
  split
  · rename_i hle
    have : 2 ^ nBits u * 2 ^ (digits - (nBits u - 1)) = 2 ^ (digits + 1) := by
      rw [← Nat.pow_add]
      congr 1
      omega
    rw [← this]
    exact Nat.mul_le_mul_right _ (by omega)
  · rename_i hle
    refine roundM_le u (digits + 1) (by omega) ?_
    rw [show digits + 1 + (nBits u - 1 - digits) = nBits u by omega]
    exact hg
theorem fltM_lt (n : Int) (h1 : -9223372036854775808 ≤ n) (h2 : n ≤ 9223372036854775807) : fltM n < 4294967296 := by
  unfold fltM bitsM
  split
  · omega
  · rename_i h0
    have hb : nBits n.natAbs ≤ 64 := nBits_lt (by omega)
    have hm := mantM_le n.natAbs 23 (by omega)
    rw [show (2 : Nat) ^ (23 + 1) = 16777216 from rfl] at hm
    rw [show (2 : Nat) ^ 23 = 8388608 from rfl]
    split <;> omega
theorem dblM_lt (n : Int) (h1 : -9223372036854775808 ≤ n) (h2 : n ≤ 9223372036854775807) : dblM n < 18446744073709551616 := by
  unfold dblM bitsM
  split
  · omega
  · rename_i h0
    have hb : nBits n.natAbs ≤ 64 := nBits_lt (by omega)
    have hm := mantM_le n.natAbs 52 (by omega)
    rw [show (2 : Nat) ^ (52 + 1) = 9007199254740992 from rfl] at hm
    rw [show (2 : Nat) ^ 52 = 4503599627370496 from rfl]
    split <;> omega
def DfOk (ns : List NT) : Prop := ∀ n ∈ ns, n.kind = 9 → ∀ f ∈ n.fields, f.has = true → rshape f.dflt = true ∧ f.dflt.inr
theorem vdeeps_bound : ∀ (xs : List VT) (n m : Nat), n ≤ m → (∀ x ∈ xs, vdeep x + 1 ≤ m) → vdeeps n xs ≤ m
  | [], n, m, h, _ => h
  | x :: xs, n, m, h, hx => by
    rw [vdeeps]
    have := hx x (by simp)
    exact vdeeps_bound xs _ m (by omega) fun y hy => hx y (by simp [hy])
theorem leaf_is {ns : List NT} {a : Int} {nd : NT} (h : ns[a.toNat]? = some nd) (hk1 : 1 ≤ nd.kind) (hk2 : nd.kind ≤ 14) (hc : compK nd.kind = false) {j : JT} (hj : rshape j = true) (hi : j.inr) (hl : (leafS nd j).2 = true) :
    isM ns a (leafS nd j).1 = true ∧ vdeep (leafS nd j).1 = 0 := by
  have hc' : nd.kind ≠ 9 ∧ nd.kind ≠ 11 ∧ nd.kind ≠ 12 ∧ nd.kind ≠ 13 := by
    unfold compK at hc
    simp only [Bool.or_eq_false_iff, beq_eq_false_iff_ne] at hc
    omega
  clear hc
  obtain ⟨c9, c11, c12, c13⟩ := hc'
  obtain ⟨p2, ps, i1, i2⟩ := rshape_acc hj hi
  unfold leafS numS textS at hl ⊢
  generalize j.kd = k at *
  generalize j.num = n at *
  generalize j.txt = s at *
  by_cases h1 : nd.kind = 1
  · rw [if_pos h1] at hl ⊢
    simp only [vz]
    rw [isM_eq h]
    exact ⟨by simp [headM, vbare, h1, eachM], by rw [vdeep]; simp⟩
  rw [if_neg h1] at hl ⊢
  by_cases h2 : nd.kind = 2
  · rw [if_pos h2] at hl ⊢
    simp only [beq_iff_eq] at hl
    have := p2 hl
    rw [isM_eq h]
    exact ⟨by simp [headM, vbare, h2, eachM]; exact this, by rw [vdeep]; simp⟩
  rw [if_neg h2] at hl ⊢
  by_cases h3 : nd.kind = 3 ∨ nd.kind = 4 ∨ nd.kind = 5 ∨ nd.kind = 6
  · rw [if_pos h3] at hl ⊢
    by_cases g3 : nd.kind = 3
    · rw [if_pos g3] at hl ⊢
      simp only [Bool.and_eq_true, beq_iff_eq, decide_eq_true_eq] at hl
      rw [isM_eq h]
      exact ⟨by simp [headM, vbare, g3, eachM]; exact hl.2, by rw [vdeep]; simp⟩
    rw [if_neg g3] at hl ⊢
    by_cases g4 : nd.kind = 4
    · rw [if_pos g4] at hl ⊢
      rw [isM_eq h]
      exact ⟨by simp [headM, vbare, g4, eachM], by rw [vdeep]; simp⟩
    rw [if_neg g4] at hl ⊢
    by_cases g5 : nd.kind = 5
    · rw [if_pos g5] at hl ⊢
      have := fltM_lt n i1 i2
      rw [isM_eq h]
      exact ⟨by simp [headM, vbare, g5, eachM]; omega, by rw [vdeep]; simp⟩
    rw [if_neg g5] at hl ⊢
    have g6 : nd.kind = 6 := by omega
    rw [isM_eq h]
    exact ⟨by simp [headM, vbare, g6, eachM], by rw [vdeep]; simp [g6]⟩
  rw [if_neg h3] at hl ⊢
  by_cases h10 : nd.kind = 10
  · rw [if_pos h10] at hl ⊢
    simp only [Bool.and_eq_true, beq_iff_eq, decide_eq_true_eq] at hl
    have hq1 := (idxS_le s nd.symbols).1
    have hq0 : 0 ≤ idxS s nd.symbols := hl.2
    generalize idxS s nd.symbols = q at *
    rw [isM_eq h]
    exact ⟨by simp [headM, vbare, h10, eachM]; omega, by rw [vdeep]; simp⟩
  rw [if_neg h10] at hl ⊢
  by_cases h4 : k = 4
  rotate_left
  · rw [if_neg h4] at hl
    simp at hl
  rw [if_pos h4] at hl ⊢
  by_cases h8 : nd.kind = 8
  · rw [if_pos h8] at hl ⊢
    simp only [decide_eq_true_eq] at hl
    rw [isM_eq h]
    exact ⟨by simp [headM, vbare, h8, eachM, hl, ps], by rw [vdeep]; simp⟩
  rw [if_neg h8] at hl ⊢
  cases hL : latF s 0 with
  | none => rw [hL] at hl; simp at hl
  | some b =>
    rw [hL] at hl
    simp only [Bool.and_eq_true, decide_eq_true_eq, Bool.or_eq_true, beq_iff_eq] at hl ⊢
    rw [isM_eq h]
    have h7 : nd.kind = 7 ∨ nd.kind = 14 := by omega
    rcases h7 with h7 | h7
    · exact ⟨by simp [headM, vbare, h7, eachM, hl.1], by rw [vdeep]; simp [h7]⟩
    · have := hl.2
      exact ⟨by simp [headM, vbare, h7, eachM, hl.1]; omega, by rw [vdeep]; simp [h7]⟩
theorem recF_spec {f : Say} {j : JT} : ∀ (fs : List FT) (c : Nat) (vs : List VT), (recF f j fs c).1 = some vs → vs.length = fs.length ∧ ∀ (i : Nat) (x : VT), vs[i]? = some x → ∃ (fd : FT) (t : JT) (c1 : Nat), fs[i]? = some fd ∧ fieldJ j fd = some t ∧ (f fd.type t c1).1 = x ∧ (f fd.type t c1).2.1 = true
  | [], c, vs, h => by
    rw [recF] at h
    obtain rfl := Option.some.inj h
    exact ⟨rfl, by simp⟩
  | fd :: fs, c, vs, h => by
    rw [recF] at h
    cases hf : fieldJ j fd with
    | none => rw [hf] at h; simp at h
    | some t =>
      rw [hf] at h
      simp only [] at h
      split at h
      · rename_i hok
        cases hr : (recF f j fs (f fd.type t c).2.2).1 with
        | none => rw [hr] at h; simp at h
        | some us =>
          rw [hr] at h
          simp only [Option.map_some, Option.some.injEq] at h
          subst h
          obtain ⟨h1, h2⟩ := recF_spec fs _ us hr
          refine ⟨by simp [h1], fun i x hx => ?_⟩
          match i with
          | 0 =>
            obtain rfl := Option.some.inj hx
            exact ⟨fd, t, c, rfl, hf, rfl, hok⟩
          | i + 1 =>
            obtain ⟨fd', t', c1, g1, g2, g3, g4⟩ := h2 i x (by simpa using hx)
            exact ⟨fd', t', c1, by simpa using g1, g2, g3, g4⟩
      · simp at h
theorem itsF_spec {f : Say} {a : Int} : ∀ (js : List JT) (c : Nat) (vs : List VT), (itsF f a js c).1 = some vs → vs.length = js.length ∧ ∀ (i : Nat) (x : VT), vs[i]? = some x → ∃ (t : JT) (c1 : Nat), t ∈ js ∧ (f a t c1).1 = x ∧ (f a t c1).2.1 = true
  | [], c, vs, h => by
    rw [itsF] at h
    obtain rfl := Option.some.inj h
    exact ⟨rfl, by simp⟩
  | t :: ts, c, vs, h => by
    rw [itsF] at h
    split at h
    · rename_i hok
      cases hr : (itsF f a ts (f a t c).2.2).1 with
      | none => rw [hr] at h; simp at h
      | some us =>
        rw [hr] at h
        simp only [Option.map_some, Option.some.injEq] at h
        subst h
        obtain ⟨h1, h2⟩ := itsF_spec ts _ us hr
        refine ⟨by simp [h1], fun i x hx => ?_⟩
        match i with
        | 0 =>
          obtain rfl := Option.some.inj hx
          exact ⟨t, c, by simp, rfl, hok⟩
        | i + 1 =>
          obtain ⟨t', c1, g1, g3, g4⟩ := h2 i x (by simpa using hx)
          exact ⟨t', c1, by simp [g1], g3, g4⟩
    · simp at h
theorem fieldJ_ok {ns : List NT} (hD : DfOk ns) {nd : NT} (hn : nd ∈ ns) (h9 : nd.kind = 9) {j t : JT} {fd : FT} (hfd : fd ∈ nd.fields) (hj : rshape j = true) (hi : j.inr) (h : fieldJ j fd = some t) : rshape t = true ∧ t.inr := by
  unfold fieldJ at h
  cases hg : jget j fd.name with
  | some i =>
    rw [hg] at h
    obtain rfl := Option.some.inj h
    exact ⟨jget_shape hj hg, jget_inr hi hg⟩
  | none =>
    rw [hg] at h
    simp only [] at h
    split at h
    · rename_i hh
      obtain rfl := Option.some.inj h
      exact hD nd hn h9 fd hfd hh
    · simp at h
theorem say_is {ns : List NT} (hD : DfOk ns) (hN : ∀ n ∈ ns, nodeM ns n = true) : ∀ (d : Nat) (a : Int) (j : JT) (c : Nat), rshape j = true → j.inr → (sayM ns d a j c).2.1 = true → isM ns a (sayM ns d a j c).1 = true ∧ vdeep (sayM ns d a j c).1 ≤ d := by
  have hkk : ∀ n ∈ ns, 1 ≤ n.kind ∧ n.kind ≤ 14 := fun n hn => by
    have := hN n hn
    unfold nodeM at this
    simp only [Bool.and_eq_true, decide_eq_true_eq] at this
    exact ⟨this.1.1, this.1.2.1⟩
  intro d
  induction d with
  | zero =>
    intro a j c hj hi h
    rw [sayM] at h ⊢
    simp only [] at h ⊢
    cases hn : ns[a.toNat]? with
    | none => rw [hn] at h; simp at h
    | some n =>
      rw [hn] at h
      simp only [] at h ⊢
      split at h
      · simp at h
      · rename_i hc
        rw [if_neg hc]
        obtain ⟨k1, k2⟩ := hkk n (List.mem_of_getElem? hn)
        have := leaf_is hn k1 k2 (by cases hb : compK n.kind with | false => rfl | true => exact absurd (.inl hb) hc) hj hi h
        exact ⟨this.1, by simp only []; omega⟩
  | succ d ih =>
  intro a j c hj hi h
  rw [sayM] at h ⊢
  simp only [] at h ⊢
  cases hn : ns[a.toNat]? with
  | none => rw [hn] at h; simp at h
  | some n =>
  rw [hn] at h
  simp only [] at h ⊢
  have hmem := List.mem_of_getElem? hn
  obtain ⟨k1, k2⟩ := hkk n hmem
  split at h
  · simp at h
  rename_i hc
  rw [if_neg hc]
  split at h
  rotate_left
  · rename_i hcm
    rw [if_neg hcm]
    have := leaf_is hn k1 k2 (by simpa using hcm) hj hi h
    exact ⟨this.1, by simp only []; omega⟩
  rename_i hcm
  rw [if_pos hcm]
  have hNn := hN n hmem
  unfold nodeM at hNn
  simp only [Bool.and_eq_true, decide_eq_true_eq] at hNn
  have hNk := hNn.2.2
  cases j with
  | mk k m s ks xs =>
  obtain ⟨_, _, p6, pks, pxs⟩ := rshape_parts hj
  have hix := jinr_mem hi
  unfold compS at h ⊢
  simp only [JT.kd, JT.keys] at h ⊢
  have hcat : n.kind = 9 ∨ n.kind = 11 ∨ n.kind = 12 ∨ n.kind = 13 := by
    unfold compK at hcm
    simp only [Bool.or_eq_true, beq_iff_eq] at hcm
    omega
  by_cases h9 : n.kind = 9
  · rw [if_pos h9] at h ⊢
    rw [if_pos h9] at hNk
    unfold fieldsM at hNk
    simp only [Bool.and_eq_true, decide_eq_true_eq] at hNk
    have hfl := hNk.2.1
    simp only [Bool.and_eq_true, beq_iff_eq] at h
    cases hr : (recF (sayM ns d) (JT.mk k m s ks xs) n.fields (c + 1)).1 with
    | none => rw [hr] at h; simp at h
    | some vs =>
      simp only [Option.getD_some]
      obtain ⟨h1, h2⟩ := recF_spec _ _ _ hr
      have key : ∀ (i : Nat) (x : VT), vs[i]? = some x → isM ns (typeAt n i) x = true ∧ vdeep x ≤ d := fun i x hx => by
        obtain ⟨fd, t, c1, g1, g2, g3, g4⟩ := h2 i x hx
        obtain ⟨q1, q2⟩ := fieldJ_ok hD hmem h9 (List.mem_of_getElem? g1) hj hi g2
        have := ih fd.type t c1 q1 q2 g4
        rw [g3] at this
        have e : typeAt n i = fd.type := by rw [typeAt, g1]
        rw [e]
        exact this
      rw [isM_eq hn]
      refine ⟨?_, ?_⟩
      · rw [Bool.and_eq_true]
        refine ⟨by simp [headM, vbare, h9, h1]; omega, (eachM_iff _ _ _).2 fun i x hx => ?_⟩
        rw [itemAt, if_pos h9]
        exact (key i x hx).1
      · rw [vdeep, if_pos (.inl rfl)]
        refine vdeeps_bound _ _ _ (by omega) fun x hx => ?_
        obtain ⟨i, hi'⟩ := List.getElem?_of_mem hx
        have := (key i x hi').2
        omega
  rw [if_neg h9] at h ⊢
  by_cases h13 : n.kind = 13
  · rw [if_neg (by omega), if_neg (by omega)] at h ⊢
    cases hb : n.branches[0]? with
    | none => rw [hb] at h; simp at h
    | some b =>
      rw [hb] at h
      simp only [] at h ⊢
      obtain ⟨q1, q2⟩ := ih b _ _ hj hi h
      have hbl := (List.getElem?_eq_some_iff.1 hb).1
      rw [isM_eq hn]
      refine ⟨?_, ?_⟩
      · rw [Bool.and_eq_true]
        refine ⟨by simp [headM, vbare, h13]; omega, (eachM_iff _ _ _).2 fun i x hx => ?_⟩
        rw [itemAt, if_neg h9, if_pos h13, branchAt, Int.toNat_zero, hb]
        simp only []
        match i with
        | 0 =>
          obtain rfl := Option.some.inj hx
          exact q1
        | i + 1 => simp at hx
      · rw [vdeep, if_pos (by omega)]
        refine vdeeps_bound _ _ _ (by omega) fun x hx => ?_
        obtain rfl := List.mem_singleton.1 hx
        omega
  have hits : ∀ vs, (itemsF (sayM ns d) n.items (JT.mk k m s ks xs) (c + 1)).1 = some vs → vs.length = xs.length ∧ xs.length ≤ 300 ∧ (∀ y ∈ ks, y.length ≤ 20000) ∧ ∀ x ∈ vs, isM ns n.items x = true ∧ vdeep x ≤ d := fun vs hv => by
    unfold itemsF at hv
    by_cases hno : 300 < (JT.mk k m s ks xs).its.length ∨ ((JT.mk k m s ks xs).keys.any fun k => decide (20000 < k.length)) = true
    · rw [if_pos hno] at hv
      simp at hv
    · rw [if_neg hno] at hv
      replace hno : ¬ (300 < xs.length ∨ (ks.any fun k => decide (20000 < k.length)) = true) := hno
      obtain ⟨g1, g2⟩ := itsF_spec _ _ _ hv
      replace g1 : vs.length = xs.length := g1
      refine ⟨g1, by omega, fun y hy => ?_, fun x hx => ?_⟩
      · have : ¬ (ks.any fun k => decide (20000 < k.length)) = true := fun e => hno (.inr e)
        rw [List.any_eq_true] at this
        exact Nat.le_of_not_lt fun hlt => this ⟨y, hy, by simpa using hlt⟩
      · obtain ⟨i, hi'⟩ := List.getElem?_of_mem hx
        obtain ⟨t, c1, e1, e2, e3⟩ := g2 i x hi'
        have := ih n.items t c1 (pxs t e1) (hix t e1) e3
        rw [e2] at this
        exact this
  by_cases h11 : n.kind = 11
  · rw [if_pos h11] at h ⊢
    simp only [Bool.and_eq_true, beq_iff_eq] at h
    cases hr : (itemsF (sayM ns d) n.items (JT.mk k m s ks xs) (c + 1)).1 with
    | none => rw [hr] at h; simp at h
    | some vs =>
      obtain ⟨g1, g2, g3, g4⟩ := hits vs hr
      simp only [Option.getD_some]
      rw [isM_eq hn]
      refine ⟨?_, ?_⟩
      · rw [Bool.and_eq_true]
        refine ⟨by simp [headM, vbare, h11, g1]; omega, (eachM_iff _ _ _).2 fun i x hx => ?_⟩
        rw [itemAt, if_neg h9, if_neg h13]
        exact (g4 x (List.mem_of_getElem? hx)).1
      · rw [vdeep, if_pos (by omega)]
        refine vdeeps_bound _ _ _ (by omega) fun x hx => ?_
        have := (g4 x hx).2
        omega
  rw [if_neg h11] at h ⊢
  have h12 : n.kind = 12 := by omega
  rw [if_pos h12] at h ⊢
  simp only [Bool.and_eq_true, beq_iff_eq] at h
  cases hr : (itemsF (sayM ns d) n.items (JT.mk k m s ks xs) (c + 1)).1 with
  | none => rw [hr] at h; simp at h
  | some vs =>
    obtain ⟨g1, g2, g3, g4⟩ := hits vs hr
    have hkl := p6 h.2
    have hka : ks.all keyM = true := List.all_eq_true.2 fun y hy => by
      rw [keyM, Bool.and_eq_true]
      exact ⟨by simpa using g3 y hy, pks y hy⟩
    simp only [Option.getD_some]
    rw [isM_eq hn]
    refine ⟨?_, ?_⟩
    · rw [Bool.and_eq_true]
      refine ⟨by simp only [headM, vbare, h12, hka]; simp; omega, (eachM_iff _ _ _).2 fun i x hx => ?_⟩
      rw [itemAt, if_neg h9, if_neg h13]
      exact (g4 x (List.mem_of_getElem? hx)).1
    · rw [vdeep, if_pos (by omega)]
      refine vdeeps_bound _ _ _ (by omega) fun x hx => ?_
      have := (g4 x hx).2
      omega

theorem nBits_zero {u i : Nat} (h : u / 2 ^ i = 0) : nBits u ≤ i := nBits_lt (by
  rcases Nat.div_eq_zero_iff.1 h with h | h
  · have := Nat.two_pow_pos i
    omega
  · exact h)
theorem nBits_more {u i : Nat} (h : u / 2 ^ i ≠ 0) : i < nBits u := by
  apply Nat.lt_of_not_le
  intro hle
  have h1 := nBits_ge u
  have h2 : 2 ^ nBits u ≤ 2 ^ i := Nat.pow_le_pow_right (by omega) hle
  exact h (Nat.div_eq_of_lt (by omega))
theorem u64_shr (a k : Nat) (hk : k ≤ 64) : ((a : Nat) : Int).fdiv (2 ^ min k 64) = ((a / 2 ^ k : Nat) : Int) := by
  rw [Nat.min_eq_left hk, Int.fdiv_eq_ediv_of_nonneg _ (by exact_mod_cast Nat.zero_le (2 ^ k))]
  simp
theorem u64_shl (a k : Nat) (hk : k ≤ 64) (h : a * 2 ^ k < 18446744073709551616) : IntKind.u64.wrap (((a : Nat) : Int) * 2 ^ min k 64) = ((a * 2 ^ k : Nat) : Int) := by
  have e : ((a * 2 ^ k : Nat) : Int) = (a : Int) * 2 ^ k := by simp
  rw [Nat.min_eq_left hk, ← e, IntKind.wrap_u64]
  omega
theorem u64_odd (a : Nat) (ha : a < 18446744073709551616) : IntKind.u64.wrap ((BitVec.ofInt IntKind.u64.bits ((a : Nat) : Int) &&& BitVec.ofInt IntKind.u64.bits 1).toNat : Int) = ((a % 2 : Nat) : Int) := by
  show IntKind.u64.wrap ((BitVec.ofInt 64 ((a : Nat) : Int) &&& BitVec.ofInt 64 1).toNat : Int) = _
  rw [BitVec.ofInt_natCast, show BitVec.ofInt 64 1 = BitVec.ofNat 64 1 from rfl, BitVec.toNat_and, BitVec.toNat_ofNat, BitVec.toNat_ofNat, Nat.mod_eq_of_lt ha, show (1 : Nat) % 2 ^ 64 = 1 from rfl, Nat.and_one_is_mod, IntKind.wrap_u64]
  omega
theorem u64_andNot (a k : Nat) (ha : a < 18446744073709551616) : IntKind.u64.wrap ((BitVec.ofInt IntKind.u64.bits ((a : Nat) : Int) &&& ~~~ BitVec.ofInt IntKind.u64.bits ((a / 2 ^ k * 2 ^ k : Nat) : Int)).toNat : Int) = ((a % 2 ^ k : Nat) : Int) := by
  show IntKind.u64.wrap ((BitVec.ofInt 64 ((a : Nat) : Int) &&& ~~~ BitVec.ofInt 64 ((a / 2 ^ k * 2 ^ k : Nat) : Int)).toNat : Int) = _
  have hle : a % 2 ^ k ≤ a := Nat.mod_le _ _
  have key : BitVec.ofNat 64 a &&& ~~~ BitVec.ofNat 64 (a / 2 ^ k * 2 ^ k) = BitVec.ofNat 64 (a % 2 ^ k) := by
    apply BitVec.eq_of_getLsbD_eq
    intro i hi
    simp only [BitVec.getLsbD_and, BitVec.getLsbD_not, BitVec.getLsbD_ofNat, hi, decide_true, Bool.true_and, Nat.testBit_mul_two_pow, Nat.testBit_div_two_pow, Nat.testBit_mod_two_pow]
    by_cases h : k ≤ i
    · rw [Nat.sub_add_cancel h]
      simp [h, Nat.not_lt.2 h]
    · simp [h, Nat.lt_of_not_le h]
  rw [BitVec.ofInt_natCast, BitVec.ofInt_natCast, key, BitVec.toNat_ofNat, IntKind.wrap_u64]
  omega
set_option maxRecDepth 100000 in
set_option maxHeartbeats 400000 in
theorem zbits_told (u : Nat) (hu : u < 18446744073709551616) : Told Tryz.prog 259 [.c (.v (.int .u64 (u : Int)))] (.c (.v (.int .i64 (nBits u : Int)))) := by
  have h64 := nBits_lt (u := u) (k := 64) (by omega)
  refine VC.told ent_259 Tryz.func259 rfl Tryz.ntmps259 (by simp) (by first | rfl | simp [AV.pureB, AV.pureL, pureL_c, pures]) (by first | rfl | simp [AV.pureB, AV.pureL, pureL_c, pures]) fun hb => ?_
  clear hb
  refine walkG ?_
  refine VC.loop (ι := {i : Nat // i ≤ nBits u}) (fun q => [(0, .c (.v (.int .u64 ((u / 2 ^ q.1 : Nat) : Int)))), (3, .c (.v (.int .i64 (q.1 : Int))))]) (fun _ => []) 0 (fun q => nBits u - q.1) ⟨0, Nat.zero_le _⟩ ?_ ?_
  · simp only [Weak, eq_self, used_is, sc_any, sc_c, sc_pp, sc_ref, sc_row, sc_agg, sc_fn, ScL, some_imp, List.forall_mem_map, go_sem, Int.reduceBEq, Int.reduceLE, Int.reduceLT, Int.reduceNeg, Nat.reduceAdd, Nat.reduceEqDiff, Nat.reduceLT, Nat.reduceLeDiff, Nat.reduceMul, Nat.reduceSub, reduceCtorEq, ↓reduceIte]
    first | rfl | exact ⟨rfl, rfl⟩ | (rw [Nat.pow_zero, Nat.div_one])
  rintro ⟨i, hi⟩
  simp only []
  by_cases h0 : u / 2 ^ i = 0
  · have e0 : (((u / 2 ^ i : Nat) : Int) == 0) = true := by rw [h0]; rfl
    have := nBits_zero h0
    obtain rfl : i = nBits u := by omega
    generalize u / 2 ^ nBits u = x at *
    refine walkBF (e0) ?_
    refine ⟨by first | exact .inr rfl | exact .inl rfl, ?_⟩; rw [Tryz.results259]; simp only [resOk, resV, go_sem, simprocAttr]
    try exact .c _
  · have e0 : (((u / 2 ^ i : Nat) : Int) == 0) = false := by
      rw [beq_eq_false_iff_ne]
      omega
    have := nBits_more h0
    have hw : IntKind.i64.wrap ((i : Int) + 1) = (i : Int) + 1 := wrap64_id (by omega) (by omega)
    have hs := u64_shr (u / 2 ^ i) 1 (by omega)
    rw [Nat.pow_one, Nat.div_div_eq_div_mul, ← Nat.pow_succ] at hs
    (try simp only [go_sem, Int.reduceBEq, Int.reduceLE, Int.reduceLT, Int.reduceNeg, Nat.reduceAdd, Nat.reduceEqDiff, Nat.reduceLT, Nat.reduceLeDiff, Nat.reduceMul, Nat.reduceSub, reduceCtorEq, ↓reduceIte] at hs)
    refine walkBF (And.intro e0 (And.intro hw hs)) ?_
    refine .next ⟨i + 1, by omega⟩ ?_ (by simp only []; omega)
    simp only [Weak, eq_self, used_is, sc_any, sc_c, sc_pp, sc_ref, sc_row, sc_agg, sc_fn, ScL, some_imp, List.forall_mem_map, go_sem, Int.reduceBEq, Int.reduceLE, Int.reduceLT, Int.reduceNeg, Nat.reduceAdd, Nat.reduceEqDiff, Nat.reduceLT, Nat.reduceLeDiff, Nat.reduceMul, Nat.reduceSub, reduceCtorEq, ↓reduceIte]
    exact cI (by omega)
set_option maxRecDepth 100000 in
set_option maxHeartbeats 800000 in
theorem round_told (u drop : Nat) (hu : u < 18446744073709551616) (hd : drop ≤ 63) : Told Tryz.prog 261 [.c (.v (.int .u64 (u : Int))), .c (.v (.int .u64 (drop : Int)))] (.c (.v (.int .u64 (roundM u drop : Int)))) := by
  by_cases h0 : drop = 0
  · subst h0
    rw [show roundM u 0 = u from rfl]
    refine VC.told ent_261 Tryz.func261 rfl Tryz.ntmps261 (by simp) (by first | rfl | simp [AV.pureB, AV.pureL, pureL_c, pures]) (by first | rfl | simp [AV.pureB, AV.pureL, pureL_c, pures]) fun hb => ?_
    clear hb
    refine walkB ?_
    refine ⟨by first | exact .inr rfl | exact .inl rfl, ?_⟩; rw [Tryz.results261]; simp only [resOk, resV, go_sem, simprocAttr]
    exact .c _
  have e0 : ((drop : Int) == 0) = false := by rw [beq_eq_false_iff_ne]; omega
  have e1 : decide ((drop : Int) > 64) = false := by simp; omega
  have e2 : decide ((drop : Int) < 64) = true := by simp; omega
  have e3 : ((drop : Int) == 64) = false := by rw [beq_eq_false_iff_ne]; omega
  have hw1 : IntKind.u64.wrap ((drop : Int) - 1) = ((drop - 1 : Nat) : Int) := by rw [IntKind.wrap_u64]; omega
  have hdl : u / 2 ^ drop ≤ u := Nat.div_le_self _ _
  have hml : u / 2 ^ drop * 2 ^ drop ≤ u := Nat.div_mul_le_self _ _
  have hpd : (2 : Nat) ^ (drop - 1) ≤ 2 ^ 63 := Nat.pow_le_pow_right (by omega) (by omega)
  have s1 := u64_shr u drop (by omega)
  have s2 := u64_shl 1 (drop - 1) (by omega) (by rw [show (2 : Nat) ^ 63 = 9223372036854775808 from rfl] at hpd; omega)
  have s3 := u64_shl (u / 2 ^ drop) drop (by omega) (by omega)
  have s4 := u64_andNot u drop hu
  have s5 := u64_odd (u / 2 ^ drop) (by omega)
  have hR : roundM u drop = if 2 ^ (drop - 1) < u % 2 ^ drop ∨ (u % 2 ^ drop = 2 ^ (drop - 1) ∧ u / 2 ^ drop % 2 = 1) then u / 2 ^ drop + 1 else u / 2 ^ drop := by
    unfold roundM
    rw [if_neg h0, if_neg (by omega)]
  rw [Nat.one_mul] at s2
  rw [hR]
  have hlt : u / 2 ^ drop < 9223372036854775808 := by
    obtain ⟨k, rfl⟩ : ∃ k, drop = k + 1 := ⟨drop - 1, by omega⟩
    have : 2 ≤ 2 ^ (k + 1) := by
      have := Nat.two_pow_pos k
      rw [Nat.pow_succ]; omega
    have := Nat.div_le_div_left (a := u) this (by omega)
    omega
  clear hR hml hpd hdl
  generalize u / 2 ^ drop * 2 ^ drop = lk at *
  generalize u / 2 ^ drop = left at *
  generalize u % 2 ^ drop = rest at *
  generalize 2 ^ (drop - 1) = half at *
  have hw2 : IntKind.u64.wrap ((left : Int) + 1) = ((left + 1 : Nat) : Int) := by rw [IntKind.wrap_u64]; omega
  (try simp only [go_sem, Int.reduceBEq, Int.reduceLE, Int.reduceLT, Int.reduceNeg, Nat.reduceAdd, Nat.reduceEqDiff, Nat.reduceLT, Nat.reduceLeDiff, Nat.reduceMul, Nat.reduceSub, reduceCtorEq, ↓reduceIte] at s1)
  (try simp only [go_sem, Int.reduceBEq, Int.reduceLE, Int.reduceLT, Int.reduceNeg, Nat.reduceAdd, Nat.reduceEqDiff, Nat.reduceLT, Nat.reduceLeDiff, Nat.reduceMul, Nat.reduceSub, reduceCtorEq, ↓reduceIte] at s2)
  (try simp only [go_sem, Int.reduceBEq, Int.reduceLE, Int.reduceLT, Int.reduceNeg, Nat.reduceAdd, Nat.reduceEqDiff, Nat.reduceLT, Nat.reduceLeDiff, Nat.reduceMul, Nat.reduceSub, reduceCtorEq, ↓reduceIte] at s3)
  (try simp only [go_sem, Int.reduceBEq, Int.reduceLE, Int.reduceLT, Int.reduceNeg, Nat.reduceAdd, Nat.reduceEqDiff, Nat.reduceLT, Nat.reduceLeDiff, Nat.reduceMul, Nat.reduceSub, reduceCtorEq, ↓reduceIte] at s4)
  (try simp only [go_sem, Int.reduceBEq, Int.reduceLE, Int.reduceLT, Int.reduceNeg, Nat.reduceAdd, Nat.reduceEqDiff, Nat.reduceLT, Nat.reduceLeDiff, Nat.reduceMul, Nat.reduceSub, reduceCtorEq, ↓reduceIte] at s5)
  by_cases c1 : half < rest
  · have f1 : decide ((rest : Int) > (half : Int)) = true := by simp; omega
    rw [if_pos (.inl c1)]
    refine VC.told ent_261 Tryz.func261 rfl Tryz.ntmps261 (by simp) (by first | rfl | simp [AV.pureB, AV.pureL, pureL_c, pures]) (by first | rfl | simp [AV.pureB, AV.pureL, pureL_c, pures]) fun hb => ?_
    clear hb
    refine walkBF (And.intro e0 (And.intro e1 (And.intro e2 (And.intro e3 (And.intro hw1 (And.intro s1 (And.intro s2 (And.intro s3 (And.intro s4 (And.intro f1 hw2)))))))))) ?_
    refine ⟨by first | exact .inr rfl | exact .inl rfl, ?_⟩; rw [Tryz.results261]; simp only [resOk, resV, go_sem, simprocAttr]
    exact .c _
  have f1 : decide ((rest : Int) > (half : Int)) = false := by simp; omega
  by_cases c2 : rest = half
  · have f2 : ((rest : Int) == (half : Int)) = true := by simp; omega
    by_cases c3 : left % 2 = 1
    · rw [c3] at s5
      rw [if_pos (.inr ⟨c2, c3⟩)]
      refine VC.told ent_261 Tryz.func261 rfl Tryz.ntmps261 (by simp) (by first | rfl | simp [AV.pureB, AV.pureL, pureL_c, pures]) (by first | rfl | simp [AV.pureB, AV.pureL, pureL_c, pures]) fun hb => ?_
      clear hb
      refine walkBF (And.intro e0 (And.intro e1 (And.intro e2 (And.intro e3 (And.intro hw1 (And.intro s1 (And.intro s2 (And.intro s3 (And.intro s4 (And.intro f1 (And.intro f2 (And.intro s5 hw2)))))))))))) ?_
      refine ⟨by first | exact .inr rfl | exact .inl rfl, ?_⟩; rw [Tryz.results261]; simp only [resOk, resV, go_sem, simprocAttr]
      exact .c _
    · rw [show left % 2 = 0 by omega] at s5
      rw [if_neg (by omega)]
      refine VC.told ent_261 Tryz.func261 rfl Tryz.ntmps261 (by simp) (by first | rfl | simp [AV.pureB, AV.pureL, pureL_c, pures]) (by first | rfl | simp [AV.pureB, AV.pureL, pureL_c, pures]) fun hb => ?_
      clear hb
      refine walkBF (And.intro e0 (And.intro e1 (And.intro e2 (And.intro e3 (And.intro hw1 (And.intro s1 (And.intro s2 (And.intro s3 (And.intro s4 (And.intro f1 (And.intro f2 (And.intro s5 hw2)))))))))))) ?_
      refine ⟨by first | exact .inr rfl | exact .inl rfl, ?_⟩; rw [Tryz.results261]; simp only [resOk, resV, go_sem, simprocAttr]
      exact .c _
  · have f2 : ((rest : Int) == (half : Int)) = false := by rw [beq_eq_false_iff_ne]; omega
    rw [if_neg (by omega)]
    refine VC.told ent_261 Tryz.func261 rfl Tryz.ntmps261 (by simp) (by first | rfl | simp [AV.pureB, AV.pureL, pureL_c, pures]) (by first | rfl | simp [AV.pureB, AV.pureL, pureL_c, pures]) fun hb => ?_
    clear hb
    refine walkBF (And.intro e0 (And.intro e1 (And.intro e2 (And.intro e3 (And.intro hw1 (And.intro s1 (And.intro s2 (And.intro s3 (And.intro s4 (And.intro f1 (And.intro f2 hw2))))))))))) ?_
    refine ⟨by first | exact .inr rfl | exact .inl rfl, ?_⟩; rw [Tryz.results261]; simp only [resOk, resV, go_sem, simprocAttr]
    exact .c _
def mantB (m : Nat) : Blkd := ⟨false, 39, 1, [[.c (.v (.int .u64 (m : Int)))]]⟩
set_option maxRecDepth 100000 in
set_option maxHeartbeats 400000 in
theorem bits1_up (m shift : Nat) (hs : shift ≤ 63) (h : m * 2 ^ shift < 18446744073709551616) : ToldM Tryz.prog 260 [.c (.v (.int .i64 (shift : Int))), .ref 1000000 1 0 0] [mantB m] [some (mantB (m * 2 ^ shift))] (.tup []) := by
  have s1 := u64_shl m shift (by omega) h
  have hw : IntKind.u64.wrap (shift : Int) = (shift : Int) := by rw [IntKind.wrap_u64]; omega
  have e0 : decide ((shift : Int) ≥ 0) = true := by simp
  generalize m * 2 ^ shift = r at *
  (try simp only [go_sem, Int.reduceBEq, Int.reduceLE, Int.reduceLT, Int.reduceNeg, Nat.reduceAdd, Nat.reduceEqDiff, Nat.reduceLT, Nat.reduceLeDiff, Nat.reduceMul, Nat.reduceSub, reduceCtorEq, ↓reduceIte] at s1)
  unfold mantB
  refine VC.toldM ent_260 [] Tryz.func260 rfl Tryz.ntmps260 (by simp) (by simp only [ScM, zOk, inL, eq_self, used_is, sc_any, sc_c, sc_pp, sc_ref, sc_row, sc_agg, sc_tup, sc_fn, ScL, some_imp, List.forall_mem_map, Nat.le_refl, go_sem, simprocAttr]) (by simp only [ScM, zOk, inL, eq_self, used_is, sc_any, sc_c, sc_pp, sc_ref, sc_row, sc_agg, sc_tup, sc_fn, ScL, some_imp, List.forall_mem_map, Nat.le_refl, go_sem, simprocAttr]) (by simp only [ScM, zOk, inL, eq_self, used_is, sc_any, sc_c, sc_pp, sc_ref, sc_row, sc_agg, sc_tup, sc_fn, ScL, some_imp, List.forall_mem_map, Nat.le_refl, go_sem, simprocAttr]) (by simp only [ScM, zOk, inL, eq_self, used_is, sc_any, sc_c, sc_pp, sc_ref, sc_row, sc_agg, sc_tup, sc_fn, ScL, some_imp, List.forall_mem_map, Nat.le_refl, go_sem, simprocAttr]) (by simp) fun hb hbL => ?_
  clear hb hbL
  refine walkBF (And.intro e0 (And.intro hw s1)) ?_
  refine ⟨by first | exact .inr rfl | exact .inl rfl, ?_⟩; rw [Tryz.results260]; simp only [resOk, resV, go_sem, simprocAttr]
set_option maxRecDepth 100000 in
set_option maxHeartbeats 400000 in
theorem bits1_down (m drop : Nat) (hm : m < 18446744073709551616) (h0 : 0 < drop) (hs : drop ≤ 63) : ToldM Tryz.prog 260 [.c (.v (.int .i64 (-(drop : Int)))), .ref 1000000 1 0 0] [mantB m] [some (mantB (roundM m drop))] (.tup []) := by
  have hr := round_told m drop hm hs
  have hw0 : IntKind.i64.wrap (-(-(drop : Int))) = (drop : Int) := by rw [wrap64_id (by omega) (by omega)]; omega
  have hw1 : IntKind.i64.wrap (0 - (-(drop : Int))) = (drop : Int) := by rw [wrap64_id (by omega) (by omega)]; omega
  have hw : IntKind.u64.wrap (drop : Int) = (drop : Int) := by rw [IntKind.wrap_u64]; omega
  have e0 : decide (-(drop : Int) ≥ 0) = false := by simp; omega
  obtain ⟨sh, hsh⟩ : ∃ sh : Int, sh = -(drop : Int) := ⟨_, rfl⟩
  rw [← hsh] at hw0 hw1 e0 ⊢
  clear hsh
  generalize roundM m drop = r at *
  unfold mantB
  refine VC.toldM ent_260 [] Tryz.func260 rfl Tryz.ntmps260 (by simp) (by simp only [ScM, zOk, inL, eq_self, used_is, sc_any, sc_c, sc_pp, sc_ref, sc_row, sc_agg, sc_tup, sc_fn, ScL, some_imp, List.forall_mem_map, Nat.le_refl, go_sem, simprocAttr]) (by simp only [ScM, zOk, inL, eq_self, used_is, sc_any, sc_c, sc_pp, sc_ref, sc_row, sc_agg, sc_tup, sc_fn, ScL, some_imp, List.forall_mem_map, Nat.le_refl, go_sem, simprocAttr]) (by simp only [ScM, zOk, inL, eq_self, used_is, sc_any, sc_c, sc_pp, sc_ref, sc_row, sc_agg, sc_tup, sc_fn, ScL, some_imp, List.forall_mem_map, Nat.le_refl, go_sem, simprocAttr]) (by simp only [ScM, zOk, inL, eq_self, used_is, sc_any, sc_c, sc_pp, sc_ref, sc_row, sc_agg, sc_tup, sc_fn, ScL, some_imp, List.forall_mem_map, Nat.le_refl, go_sem, simprocAttr]) (by simp) fun hb hbL => ?_
  clear hb hbL
  refine walkBF (And.intro e0 (And.intro hw0 (And.intro hw1 hw))) ?_
  refine walkC (hr) ?_
  refine walkG ?_
  refine ⟨by first | exact .inr rfl | exact .inl rfl, ?_⟩; rw [Tryz.results260]; simp only [resOk, resV, go_sem, simprocAttr]
end
end Go.Proofs.YtllnlmchjljhlaaGreatDoor
