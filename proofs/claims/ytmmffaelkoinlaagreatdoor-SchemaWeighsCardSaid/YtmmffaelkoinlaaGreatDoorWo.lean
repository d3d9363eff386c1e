/- The chapter's example of schemas, as a contract. -/
import Derived.Test.YtmmffaelkoinlaaGreatDoorCy
import Derived.Test.YtmmffaelkoinlaaGreatDoorSx
import Derived.Test.YtmmffaelkoinlaaGreatDoorSr
namespace Go.Proofs.YtmmffaelkoinlaaGreatDoor
open Go.RowKit
set_option linter.unusedVariables false
set_option linter.unusedSimpArgs false
attribute [local go_sem] opx opE ev okx gcond bnd okO AV.get AV.okb cAV upd_at putd_some putd_none wrs_nil wrs_cons look_nil look_cons st argT_at bpick_and bpick_or bpick_true bpick_false binV binI binS binVOk binOk isShift binSOk unV unVOk loadV loadP cellsA zeroA Blkd.len setE grown moreA moreR moreOk eqRes pv fillA fillE putSeg AV.cellish AV.pureL AV.pureB lentL_is ex_some AV.ren AV.renL renL_c Blkd.ren rho wrM renN lentOk rhoE keepM endOk tyA_2 tyA_3 tyA_4 tyA_5 tyA_6 tyA_7 tyA_8 tyA_9 tyA_10 tyA_11 tyA_12 tyA_13 tyA_14 tyA_15 tyA_16 tyA_17 tyA_18 tyA_19 tyA_21 tyA_22 tyA_23 tyA_24 tyA_28 tyA_29 tyA_30 tyA_31 tyA_32 tyA_34 tyA_35 tyA_36 tyA_37 tyA_38 tyA_42 tyA_47 tyA_48 tyA_49 tyA_50 tyA_51 tyA_81 tyA_85 tyA_89 tyA_90 tyA_91 tyA_98 tyA_110 tyA_111 tyA_112 tyA_113 tyA_114 tyA_119 tyA_130 tyA_160 tyA_163 tyA_165 tyA_171 tyA_181 tyA_185 tyA_187 tyA_191 tyA_192 tyA_193 tyA_194 tyA_195 tyA_197 tyA_198 tyA_200 tyA_201 tyA_202 tyA_205 Option.map_some Option.map_none Option.getD_some Option.getD_none Option.bind_some Option.bind_none List.getElem?_cons_zero List.getElem?_cons_succ List.getElem?_nil List.getElem?_toArray List.length_cons List.length_nil List.length_map List.forall_mem_map List.map_cons List.map_nil List.drop_zero List.drop_succ_cons List.drop_nil List.take_zero List.take_succ_cons List.take_nil List.mem_cons List.not_mem_nil or_false forall_eq_or_imp forall_eq List.set_cons_zero List.set_cons_succ List.cons_append List.nil_append List.append_nil List.foldl_cons List.foldl_nil List.replicate_succ List.replicate_zero List.all_cons List.all_nil if_true if_false Bool.false_eq_true ne_eq not_false_eq_true not_true_eq_false true_and and_true and_self true_implies imp_self implies_true forall_const beq_self_eq_true Bool.and_true Bool.true_and Bool.and_false Bool.false_and Bool.or_true Bool.true_or Bool.or_false Bool.false_or Bool.not_true Bool.not_false Bool.not_eq_eq_eq_not intKindOf Value.oneCell' Int.toNat_natCast beq_true beq_false Bool.not_eq_true false_implies false_or true_or or_true Nat.zero_add Nat.add_zero decide_true decide_false Int.cast_ofNat_Int Int.toNat_zero Int.toNat_one eq_self

def w10f : FT := ⟨[102], [], 1, false, jzero⟩
def w10a : NT := ⟨9, [114], [], [w10f], [], false, [], 0, 0, []⟩
def w10b : NT := ⟨13, [], [], [], [], false, [], 0, 0, [2, 0]⟩
def w10c : NT := ⟨1, [], [], [], [], false, [], 0, 0, []⟩
def w10 : ST := ⟨[w10a, w10b, w10c], 0⟩
theorem w10_field : fieldM w10f = true := by
  have h : jeq w10f.dflt jzero = true := jeq_self _
  unfold fieldM
  rw [h]
  rfl
theorem w10_fields : fieldsM [w10f] = true := by
  unfold fieldsM
  rw [List.all_cons, w10_field]
  decide +kernel
theorem w10_a : nodeM w10.nodes w10a = true := by
  unfold nodeM
  rw [if_pos (show w10a.kind = 9 from rfl), show w10a.fields = [w10f] from rfl, w10_fields]
  decide +kernel
theorem w10_b : nodeM w10.nodes w10b = true := by
  unfold nodeM
  rw [if_neg (show ¬ w10b.kind = 9 by decide)]
  decide +kernel
theorem w10_c : nodeM w10.nodes w10c = true := by
  unfold nodeM
  rw [if_neg (show ¬ w10c.kind = 9 by decide)]
  decide +kernel
theorem w10_right : rightM w10 = true := by
  have h1 : orderedM w10 = true := by decide +kernel
  have h2 : diffM fullM (namesM w10.nodes) = true := by decide +kernel
  have h3 : rightL w10.nodes w10.nodes 0 (List.replicate w10.nodes.length 0) = true := by
    rw [show rightL w10.nodes w10.nodes = rightL w10.nodes [w10a, w10b, w10c] from rfl]
    rw [rightL, rightL, rightL, rightL, w10_a, w10_b, w10_c]
    decide +kernel
  unfold rightM
  rw [h1, h2, h3]
  rfl
theorem w10_none : rightM ⟨[], 0⟩ = false := by
  have h : orderedM ⟨[], 0⟩ = false := by decide +kernel
  unfold rightM
  rw [h]
  rfl
theorem w10_find : findM w10 [114] = 0 := by decide +kernel
theorem w10_kids : kidsN w10b = [2, 0] := by decide +kernel
theorem jz_sm : jzero.sm 1000000 := ⟨by decide, by decide, by simp, by decide, trivial⟩
theorem w10_sm : w10.sm 1000000 := by
  refine ⟨by decide, fun n hn => ?_⟩
  have hf : w10f.sm 1000000 := ⟨by decide, by decide, by simp [w10f], jz_sm⟩
  simp only [w10, List.mem_cons, List.not_mem_nil, or_false] at hn
  rcases hn with rfl | rfl | rfl
  · exact ⟨by decide, by decide, ⟨by decide, by simp [w10a]⟩, ⟨by decide, by simp [w10a]⟩, by decide, by decide, fun f hm => by
      obtain rfl := List.mem_singleton.1 hm
      exact hf⟩
  · exact ⟨by decide, by decide, ⟨by decide, by simp [w10b]⟩, ⟨by decide, by simp [w10b]⟩, by decide, by decide, by simp [w10b]⟩
  · exact ⟨by decide, by decide, ⟨by decide, by simp [w10c]⟩, ⟨by decide, by simp [w10c]⟩, by decide, by decide, by simp [w10c]⟩
theorem cellish_map (l : List PV) : ∀ x ∈ l.map AV.c, x.cellish = true := fun x hx => by
  obtain ⟨p, _, rfl⟩ := List.mem_map.1 hx
  rfl
set_option maxRecDepth 100000 in
set_option maxHeartbeats 1600000 in
theorem works10_told : Told Tryz.prog 7 [] (.c (.v (.bool true))) := by
  have hR := sRight_told w10 w10_sm
  rw [w10_right] at hR
  have hF := find_told w10 [114]
  rw [w10_find] at hF
  have hKd := kids_told w10b (w10_sm.2 w10b (by simp [w10]))
  rw [w10_kids] at hKd
  have hN := sRight_told ⟨[], 0⟩ ⟨by decide, by simp⟩
  rw [w10_none] at hN
  have hC := sCopy_told w10 w10_sm
  have hS := sSame_told w10 w10
  rw [ceq_self] at hS
  simp only [ST.av_eq, scells_mk, List.map_cons, List.map_nil] at hR hF hC hS
  refine VC.told ent_7 Tryz.func7 rfl Tryz.ntmps7 (by simp) (by first | rfl | simp [AV.pureB, AV.pureL, pureL_c, pures]) (by first | rfl | simp [AV.pureB, AV.pureL, pureL_c, pures]) fun hb => ?_
  clear hb
  (refine VC.seq ?_; (first | refine VC.region (by rfl) (by rfl) ?_ | refine VC.draw mixP (by rfl) (by rfl) ?_); (repeat (refine AO.step fun K hK => ?_; simp only [go_sem, Int.reduceBEq, Int.reduceLE, Int.reduceLT, Int.reduceNeg, Nat.reduceAdd, Nat.reduceEqDiff, Nat.reduceLT, Nat.reduceLeDiff, Nat.reduceMul, Nat.reduceSub, reduceCtorEq, ↓reduceIte]; (first | refine gsel_skip ?_ | refine gsel_go ?_ | skip); (first | refine hK _ _ _ ?_ | refine ⟨by first | omega | exact ⟨_, rfl, rfl⟩ | exact fun _ => ⟨_, rfl, rfl⟩ | (intro h; simp only [h, true_and]; omega) | (clear hK; intro h; simp_all <;> omega), hK _ _ _ ?_⟩); clear hK K)); refine AO.nil ?_; first | refine SQ.normal ?_ | refine ⟨okd_of (by kernel_rfl), SQ.normal ?_⟩)
  (refine VC.seq ?_; (first | refine VC.region (by rfl) (by rfl) ?_ | refine VC.draw mixP (by rfl) (by rfl) ?_); (repeat (refine AO.step fun K hK => ?_; simp only [go_sem, Int.reduceBEq, Int.reduceLE, Int.reduceLT, Int.reduceNeg, Nat.reduceAdd, Nat.reduceEqDiff, Nat.reduceLT, Nat.reduceLeDiff, Nat.reduceMul, Nat.reduceSub, reduceCtorEq, ↓reduceIte]; (first | refine gsel_skip ?_ | refine gsel_go ?_ | skip); (first | refine hK _ _ _ ?_ | refine ⟨by first | omega | exact ⟨_, rfl, rfl⟩ | exact fun _ => ⟨_, rfl, rfl⟩ | (intro h; simp only [h, true_and]; omega) | (clear hK; intro h; simp_all <;> omega), hK _ _ _ ?_⟩); clear hK K)); refine AO.nil ?_; first | refine SQ.normal ?_ | refine ⟨okd_of (by kernel_rfl), SQ.normal ?_⟩)
  refine VC.frz [] [(1, .ref 72 1 0 0)] [(16, ⟨true, 51, 9, [w10f.cells.map .c]⟩), (32, ⟨true, 3, 1, rA iPV [2, 0]⟩), (56, ⟨true, 32, 10, [[.c (.v (.int .i64 9)), .c (.v (.string ⟨#[114]⟩)), .c (.v (.slice none 0 0)), .row 16 1, .c (.v (.slice none 0 0)), .c (.v (.bool false)), .c (.v (.string ⟨#[]⟩)), .c (.v (.int .i64 0)), .c (.v (.int .i64 0)), .c (.v (.slice none 0 0))], [.c (.v (.int .i64 13)), .c (.v (.string ⟨#[]⟩)), .c (.v (.slice none 0 0)), .c (.v (.slice none 0 0)), .c (.v (.slice none 0 0)), .c (.v (.bool false)), .c (.v (.string ⟨#[]⟩)), .c (.v (.int .i64 0)), .c (.v (.int .i64 0)), .row 32 2], w10c.cells.map .c]⟩), (72, ⟨false, 24, 2, [[.row 56 3, .c (.v (.int .i64 0))]]⟩)] 400 ?_ ?_
  · simp only [rA_sc, rA_len, WeakF, used_is, sc_any, sc_c, sc_pp, sc_ref, sc_row, sc_agg, sc_fn, ScL, some_imp, List.forall_mem_map, go_sem, Int.reduceBEq, Int.reduceLE, Int.reduceLT, Int.reduceNeg, Nat.reduceAdd, Nat.reduceEqDiff, Nat.reduceLT, Nat.reduceLeDiff, Nat.reduceMul, Nat.reduceSub, reduceCtorEq, ↓reduceIte]
    exact ⟨.same _, .one (.cons (.same _) (.cons (.nil 1) (.cons (.same _) (.cons (.same _) (.cons (.same _) (.cons (.same _) (.cons (.same _) (.cons (.nil 5) (.cons (.nil 1) .nil))))))))) (cellish_map _), .same _, .set (i := 2) (e' := w10c.cells.map .c) rfl (.cons (.same _) (.cons (.same _) (.cons (.nil 1) (.cons (.nil 9) (.cons (.nil 1) (.cons (.same _) (.cons (.same _) (.cons (.same _) (.cons (.same _) (.cons (.nil 1) .nil)))))))))) (cellish_map _), .same _⟩
  refine VC.frz [16] [(1, .ref 72 1 0 0)] [(32, ⟨true, 3, 1, rA iPV [2, 0]⟩), (56, ⟨true, 32, 10, [w10a.cells.map .c, [.c (.v (.int .i64 13)), .c (.v (.string ⟨#[]⟩)), .c (.v (.slice none 0 0)), .c (.v (.slice none 0 0)), .c (.v (.slice none 0 0)), .c (.v (.bool false)), .c (.v (.string ⟨#[]⟩)), .c (.v (.int .i64 0)), .c (.v (.int .i64 0)), .row 32 2], w10c.cells.map .c]⟩), (72, ⟨false, 24, 2, [[.row 56 3, .c (.v (.int .i64 0))]]⟩)] 400 ?_ ?_
  · simp only [rA_sc, rA_len, WeakF, used_is, sc_any, sc_c, sc_pp, sc_ref, sc_row, sc_agg, sc_fn, ScL, some_imp, List.forall_mem_map, go_sem, Int.reduceBEq, Int.reduceLE, Int.reduceLT, Int.reduceNeg, Nat.reduceAdd, Nat.reduceEqDiff, Nat.reduceLT, Nat.reduceLeDiff, Nat.reduceMul, Nat.reduceSub, reduceCtorEq, ↓reduceIte]
    exact ⟨.same _, .same _, .set (i := 0) (e' := w10a.cells.map .c) rfl (.cons (.same _) (.cons (.same _) (.cons (.nil 1) (.cons (.row (B := ⟨true, 51, 9, [w10f.cells.map .c]⟩) (es := [w10f.cells]) (by simp) rfl rfl rfl rfl) (.cons (.nil 1) (.cons (.same _) (.cons (.same _) (.cons (.same _) (.cons (.same _) (.cons (.nil 1) .nil)))))))))) (cellish_map _), .same _⟩
  refine VC.frz [32] [(1, .ref 72 1 0 0)] [(56, ⟨true, 32, 10, [w10a.cells.map .c, w10b.cells.map .c, w10c.cells.map .c]⟩), (72, ⟨false, 24, 2, [[.row 56 3, .c (.v (.int .i64 0))]]⟩)] 400 ?_ ?_
  · simp only [rA_sc, rA_len, WeakF, used_is, sc_any, sc_c, sc_pp, sc_ref, sc_row, sc_agg, sc_fn, ScL, some_imp, List.forall_mem_map, go_sem, Int.reduceBEq, Int.reduceLE, Int.reduceLT, Int.reduceNeg, Nat.reduceAdd, Nat.reduceEqDiff, Nat.reduceLT, Nat.reduceLeDiff, Nat.reduceMul, Nat.reduceSub, reduceCtorEq, ↓reduceIte]
    exact ⟨.same _, .set (i := 1) (e' := w10b.cells.map .c) rfl (.cons (.same _) (.cons (.same _) (.cons (.nil 1) (.cons (.nil 9) (.cons (.nil 1) (.cons (.same _) (.cons (.same _) (.cons (.same _) (.cons (.same _) (.cons (.row (B := ⟨true, 3, 1, rA iPV [2, 0]⟩) (es := [iPV 2, iPV 0]) (by simp) rfl rfl rfl rfl) .nil)))))))))) (cellish_map _), .same _⟩
  refine VC.frz [56] [(1, .ref 72 1 0 0)] [(72, ⟨false, 24, 2, [[.c (.sl 10 (w10.nodes.map NT.cells)), .c (.v (.int .i64 w10.root))]]⟩)] 400 ?_ ?_
  · simp only [rA_sc, rA_len, WeakF, used_is, sc_any, sc_c, sc_pp, sc_ref, sc_row, sc_agg, sc_fn, ScL, some_imp, List.forall_mem_map, go_sem, Int.reduceBEq, Int.reduceLE, Int.reduceLT, Int.reduceNeg, Nat.reduceAdd, Nat.reduceEqDiff, Nat.reduceLT, Nat.reduceLeDiff, Nat.reduceMul, Nat.reduceSub, reduceCtorEq, ↓reduceIte]
    exact ⟨.same _, .one (.cons (.row (B := ⟨true, 32, 10, [w10a.cells.map .c, w10b.cells.map .c, w10c.cells.map .c]⟩) (es := w10.nodes.map NT.cells) (by simp) rfl rfl rfl rfl) (.cons (.same _) .nil)) (by simp [AV.cellish])⟩
  have hlen : w10.nodes.length = 3 := rfl
  have hn1 : (w10.nodes.map NT.cells)[1]? = some w10b.cells := rfl
  refine walkG ?_
  refine walkC (hR) ?_
  refine walkG ?_
  refine walkC (hF) ?_
  refine walkGF (And.intro hlen (And.intro hn1 (And.intro @len_ncells (And.intro @take_ncells @take_ncellsC)))) ?_
  refine walkCF (@pureL_c) (hKd) ?_
  refine walkG ?_
  (refine AO.step fun K hK => ?_; simp only [go_sem, Int.reduceBEq, Int.reduceLE, Int.reduceLT, Int.reduceNeg, Nat.reduceAdd, Nat.reduceEqDiff, Nat.reduceLT, Nat.reduceLeDiff, Nat.reduceMul, Nat.reduceSub, reduceCtorEq, ↓reduceIte]; (first | refine gsel_go ?_ | skip))
  refine .inr (.inl ⟨.c (.v (.bool false)), [ST.av ⟨[], 0⟩], [], ⟨by rfl, rfl, fun k x z h5 h6 => ?_, rfl, hN⟩, hK _ _ _ ?_⟩)
  · match k with
    | 0 =>
      obtain rfl := Option.some.inj h5
      obtain rfl := Option.some.inj h6
      refine .agg rfl fun k x y h7 h8 => ?_
      match k with
      | 0 => obtain rfl := Option.some.inj h7; obtain rfl := Option.some.inj h8; exact .nil 10
      | 1 => obtain rfl := Option.some.inj h7; obtain rfl := Option.some.inj h8; exact .same _
      | k + 2 => simp at h7
    | k + 1 => simp at h5
  clear hK K
  refine walkG ?_
  refine walkC (hC) ?_
  refine walkG ?_
  refine walkC (hS) ?_
  refine walkG ?_
  refine ⟨by first | exact .inr rfl | exact .inl rfl, ?_⟩; rw [Tryz.results7]; simp only [resOk, resV, go_sem, Int.reduceBEq, Int.reduceLE, Int.reduceLT, Int.reduceNeg, Nat.reduceAdd, Nat.reduceEqDiff, Nat.reduceLT, Nat.reduceLeDiff, Nat.reduceMul, Nat.reduceSub, reduceCtorEq, ↓reduceIte]
  exact .c _

end Go.Proofs.YtmmffaelkoinlaaGreatDoor
