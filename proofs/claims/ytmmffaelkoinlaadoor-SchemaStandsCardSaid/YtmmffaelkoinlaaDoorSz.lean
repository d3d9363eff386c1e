/- What the law SchemaStands marks as seen; the law as a contract. -/
import Derived.Test.YtmmffaelkoinlaaDoorSt
import Derived.Test.YtmmffaelkoinlaaDoorWo
import Derived.Test.YtmmffaelkoinlaaDoorSv
namespace Go.Proofs.YtmmffaelkoinlaaDoor
open Go.RowKit
set_option linter.unusedVariables false
set_option linter.unusedSimpArgs false
attribute [local go_sem] opx opE ev okx gcond bnd okO AV.get AV.okb cAV upd_at putd_some putd_none wrs_nil wrs_cons look_nil look_cons st argT_at bpick_and bpick_or bpick_true bpick_false binV binI binS binVOk binOk isShift binSOk unV unVOk loadV loadP cellsA zeroA Blkd.len setE grown moreA moreR moreOk eqRes pv fillA fillE putSeg AV.cellish AV.pureL AV.pureB lentL_is ex_some AV.ren AV.renL renL_c Blkd.ren rho wrM renN lentOk rhoE keepM endOk tyA_2 tyA_3 tyA_4 tyA_5 tyA_6 tyA_7 tyA_8 tyA_9 tyA_10 tyA_11 tyA_12 tyA_13 tyA_14 tyA_15 tyA_16 tyA_17 tyA_18 tyA_19 tyA_21 tyA_22 tyA_23 tyA_24 tyA_27 tyA_28 tyA_29 tyA_30 tyA_31 tyA_32 tyA_36 tyA_37 tyA_38 tyA_39 tyA_40 tyA_58 tyA_62 tyA_66 tyA_67 tyA_68 tyA_77 tyA_89 tyA_91 tyA_97 tyA_100 tyA_113 tyA_123 tyA_124 tyA_128 tyA_130 tyA_134 tyA_135 tyA_136 tyA_137 tyA_138 tyA_140 tyA_141 tyA_143 tyA_144 tyA_145 tyA_148 Option.map_some Option.map_none Option.getD_some Option.getD_none Option.bind_some Option.bind_none List.getElem?_cons_zero List.getElem?_cons_succ List.getElem?_nil List.getElem?_toArray List.length_cons List.length_nil List.length_map List.forall_mem_map List.map_cons List.map_nil List.drop_zero List.drop_succ_cons List.drop_nil List.take_zero List.take_succ_cons List.take_nil List.mem_cons List.not_mem_nil or_false forall_eq_or_imp forall_eq List.set_cons_zero List.set_cons_succ List.cons_append List.nil_append List.append_nil List.foldl_cons List.foldl_nil List.replicate_succ List.replicate_zero List.all_cons List.all_nil if_true if_false Bool.false_eq_true ne_eq not_false_eq_true not_true_eq_false true_and and_true and_self true_implies imp_self implies_true forall_const beq_self_eq_true Bool.and_true Bool.true_and Bool.and_false Bool.false_and Bool.or_true Bool.true_or Bool.or_false Bool.false_or Bool.not_true Bool.not_false Bool.not_eq_eq_eq_not intKindOf Value.oneCell' Int.toNat_natCast beq_true beq_false Bool.not_eq_true false_implies false_or true_or or_true Nat.zero_add Nat.add_zero decide_true decide_false Int.cast_ofNat_Int Int.toNat_zero Int.toNat_one eq_self

structure Seen (ns : List NT) (B : List Bool) (i : Nat) : Prop where
  len : B.length = ns.length
  root : B[0]? = some true
  kids : ∀ (j : Nat) (n : NT), j < i → ns[j]? = some n → ∀ k ∈ kidsN n, B[k.toNat]? = some true
theorem seen_at {ns : List NT} {B : List Bool} {i : Nat} (hs : Seen ns B i) (h : Stand ns 0 ns.length) (hi : i < ns.length) : B[i]? = some true := by
  rcases Nat.eq_zero_or_pos i with rfl | h0
  · exact hs.root
  · obtain ⟨j, n, _, hj, hn, hm⟩ := h.2 i h0 hi
    have := hs.kids j n hj hn _ hm
    rwa [Int.toNat_natCast] at this
theorem set_true {B : List Bool} {k m : Nat} (hm : B[m]? = some true) : (B.set k true)[m]? = some true := by
  rw [List.getElem?_set]
  split
  · rename_i h
    subst h
    rw [if_pos (List.getElem?_eq_some_iff.1 hm).1]
  · exact hm
theorem Seen.set {ns : List NT} {B : List Bool} {i : Nat} (hs : Seen ns B i) (k : Nat) : Seen ns (B.set k true) i :=
  ⟨by rw [List.length_set]; exact hs.len, set_true hs.root, fun j n hj hn x hx => set_true (hs.kids j n hj hn x hx)⟩
theorem Seen.next {ns : List NT} {B : List Bool} {i : Nat} {n : NT} (hs : Seen ns B i) (hn : ns[i]? = some n) (hk : ∀ k ∈ kidsN n, B[k.toNat]? = some true) : Seen ns B (i + 1) :=
  ⟨hs.len, hs.root, fun j m hj hm x hx => by
    by_cases hji : j = i
    · subst hji
      rw [hn] at hm
      obtain rfl := Option.some.inj hm
      exact hk x hx
    · exact hs.kids j m (by omega) hm x hx⟩
theorem seen_first {ns : List NT} (h : 0 < ns.length) : Seen ns ((List.replicate ns.length false).set 0 true) 0 :=
  ⟨by simp, by rw [List.getElem?_set]; simp [h], fun j n hj => by omega⟩
theorem seen_kid {ns : List NT} {B : List Bool} {i q : Nat} {ks : List Int} {k : Int} (hs : Seen ns B i) (hk : ks[q]? = some k) (hl : k.toNat < ns.length) (hp : ∀ x ∈ ks.take q, B[x.toNat]? = some true) : ∀ x ∈ ks.take (q + 1), (B.set k.toNat true)[x.toNat]? = some true := by
  intro x hx
  rw [List.take_add_one, hk] at hx
  rcases List.mem_append.1 hx with hx | hx
  · exact set_true (hp x hx)
  · obtain rfl := List.mem_singleton.1 hx
    rw [List.getElem?_set, if_pos rfl, if_pos (by rw [hs.len]; exact hl)]

end Go.Proofs.YtmmffaelkoinlaaDoor

namespace Go.Proofs.YtmmffaelkoinlaaDoor
open Go.RowKit
set_option linter.unusedVariables false
set_option linter.unusedSimpArgs false
attribute [local go_sem] opx opE ev okx gcond bnd okO AV.get AV.okb cAV upd_at putd_some putd_none wrs_nil wrs_cons look_nil look_cons st argT_at bpick_and bpick_or bpick_true bpick_false binV binI binS binVOk binOk isShift binSOk unV unVOk loadV loadP cellsA zeroA Blkd.len setE grown moreA moreR moreOk eqRes pv fillA fillE putSeg AV.cellish AV.pureL AV.pureB lentL_is ex_some AV.ren AV.renL renL_c Blkd.ren rho wrM renN lentOk rhoE keepM endOk tyA_2 tyA_3 tyA_4 tyA_5 tyA_6 tyA_7 tyA_8 tyA_9 tyA_10 tyA_11 tyA_12 tyA_13 tyA_14 tyA_15 tyA_16 tyA_17 tyA_18 tyA_19 tyA_21 tyA_22 tyA_23 tyA_24 tyA_27 tyA_28 tyA_29 tyA_30 tyA_31 tyA_32 tyA_36 tyA_37 tyA_38 tyA_39 tyA_40 tyA_58 tyA_62 tyA_66 tyA_67 tyA_68 tyA_77 tyA_89 tyA_91 tyA_97 tyA_100 tyA_113 tyA_123 tyA_124 tyA_128 tyA_130 tyA_134 tyA_135 tyA_136 tyA_137 tyA_138 tyA_140 tyA_141 tyA_143 tyA_144 tyA_145 tyA_148 Option.map_some Option.map_none Option.getD_some Option.getD_none Option.bind_some Option.bind_none List.getElem?_cons_zero List.getElem?_cons_succ List.getElem?_nil List.getElem?_toArray List.length_cons List.length_nil List.length_map List.forall_mem_map List.map_cons List.map_nil List.drop_zero List.drop_succ_cons List.drop_nil List.take_zero List.take_succ_cons List.take_nil List.mem_cons List.not_mem_nil or_false forall_eq_or_imp forall_eq List.set_cons_zero List.set_cons_succ List.cons_append List.nil_append List.append_nil List.foldl_cons List.foldl_nil List.replicate_succ List.replicate_zero List.all_cons List.all_nil if_true if_false Bool.false_eq_true ne_eq not_false_eq_true not_true_eq_false true_and and_true and_self true_implies imp_self implies_true forall_const beq_self_eq_true Bool.and_true Bool.true_and Bool.and_false Bool.false_and Bool.or_true Bool.true_or Bool.or_false Bool.false_or Bool.not_true Bool.not_false Bool.not_eq_eq_eq_not intKindOf Value.oneCell' Int.toNat_natCast beq_true beq_false Bool.not_eq_true false_implies false_or true_or or_true Nat.zero_add Nat.add_zero decide_true decide_false Int.cast_ofNat_Int Int.toNat_zero Int.toNat_one eq_self

def bPV (b : Bool) : List PV := [.v (.bool b)]
theorem rA_repB (N : Nat) : rA bPV (List.replicate N false) = List.replicate N [AV.c (.v (.bool false))] := by
  simp [rA, bPV]
theorem ssm_le {s : ST} (h : s.sm 2500) : s.sm 1000000 := by
  obtain ⟨h1, h2⟩ := h
  refine ⟨by omega, fun n hn => ?_⟩
  obtain ⟨a1, a2, ⟨a3, a4⟩, ⟨a5, a6⟩, a7, a8, a9⟩ := h2 n hn
  refine ⟨by omega, by omega, ⟨by omega, fun y hy => by have := a4 y hy; omega⟩, ⟨by omega, fun y hy => by have := a6 y hy; omega⟩, by omega, by omega, fun f hf => ?_⟩
  obtain ⟨b1, b2, b3, b4⟩ := a9 f hf
  exact ⟨by omega, by omega, fun y hy => by have := b3 y hy; omega, sm_le (by omega) _ b4⟩
theorem kids_len' {n : NT} (h : n.sm 1000000) : (kidsN n).length ≤ 1000000 := kids_len h
set_option maxRecDepth 100000 in
set_option maxHeartbeats 3200000 in
theorem stands_told (s : ST) : Told Tryd.prog 3 [s.av] (.c (.v (.bool true))) := by
  have hG := sgreat_told s
  simp only [ST.av_eq, scells_mk, List.map_cons, List.map_nil] at hG
  by_cases hg : 2500 < sbulk s
  · have e0 : decide (2500 < (sbulk s : Int)) = true := by simp; omega
    rw [e0] at hG
    rw [ST.av_eq, scells_mk]
    refine VC.told ent_3 Tryd.func3 rfl Tryd.ntmps3 (by simp) (by first | rfl | simp [AV.pureB, AV.pureL, pureL_c, pures]) (by first | rfl | simp [AV.pureB, AV.pureL, pureL_c, pures]) fun hb => ?_
    clear hb
    refine walkG ?_
    refine walkC (works10_told) ?_
    refine walkB ?_
    refine walkC (hG) ?_
    refine walkB ?_
    refine ⟨by first | exact .inr rfl | exact .inl rfl, ?_⟩; rw [Tryd.results3]; simp only [resOk, resV, go_sem, Int.reduceBEq, Int.reduceLE, Int.reduceLT, Int.reduceNeg, Nat.reduceAdd, Nat.reduceEqDiff, Nat.reduceLT, Nat.reduceLeDiff, Nat.reduceMul, Nat.reduceSub, reduceCtorEq, ↓reduceIte]
    exact .c _
  have e0 : decide (2500 < (sbulk s : Int)) = false := by simp; omega
  rw [e0] at hG
  have hsm := ssm_le (sbulk_sm (s := s) (by omega))
  have hR := sRight_told s hsm
  simp only [ST.av_eq, scells_mk, List.map_cons, List.map_nil] at hR
  cases hrt : rightM s with
  | false =>
    rw [hrt] at hR
    rw [ST.av_eq, scells_mk]
    refine VC.told ent_3 Tryd.func3 rfl Tryd.ntmps3 (by simp) (by first | rfl | simp [AV.pureB, AV.pureL, pureL_c, pures]) (by first | rfl | simp [AV.pureB, AV.pureL, pureL_c, pures]) fun hb => ?_
    clear hb
    refine walkG ?_
    refine walkC (works10_told) ?_
    refine walkB ?_
    refine walkC (hG) ?_
    refine walkB ?_
    refine walkC (hR) ?_
    refine walkB ?_
    refine ⟨by first | exact .inr rfl | exact .inl rfl, ?_⟩; rw [Tryd.results3]; simp only [resOk, resV, go_sem, Int.reduceBEq, Int.reduceLE, Int.reduceLT, Int.reduceNeg, Nat.reduceAdd, Nat.reduceEqDiff, Nat.reduceLT, Nat.reduceLeDiff, Nat.reduceMul, Nat.reduceSub, reduceCtorEq, ↓reduceIte]
    exact .c _
  | true =>
  rw [hrt] at hR
  have hord := right_ordered hrt
  have hst := ordered_stand hord
  obtain ⟨hl, hs⟩ := hsm
  have hpos : 0 < s.nodes.length := by
    unfold orderedM at hord
    simp only [Bool.and_eq_true, decide_eq_true_eq] at hord
    exact hord.1
  have h00 : (List.replicate s.nodes.length [AV.c (.v (.bool false))])[0]? = some [AV.c (.v (.bool false))] := by
    rw [List.getElem?_replicate, if_pos hpos]
  have h01 : (List.replicate s.nodes.length [AV.c (.v (.bool false))]).set 0 [AV.c (.v (.bool true))] = rA bPV ((List.replicate s.nodes.length false).set 0 true) := by
    rw [← rA_repB]
    exact rA_set _ 0 true
  have hpz : (0 : Int) < (s.nodes.length : Int) := by omega
  rw [ST.av_eq, scells_mk]
  refine VC.told ent_3 Tryd.func3 rfl Tryd.ntmps3 (by simp) (by first | rfl | simp [AV.pureB, AV.pureL, pureL_c, pures]) (by first | rfl | simp [AV.pureB, AV.pureL, pureL_c, pures]) fun hb => ?_
  clear hb
  refine walkG ?_
  refine walkC (works10_told) ?_
  refine walkB ?_
  refine walkC (hG) ?_
  refine walkB ?_
  refine walkC (hR) ?_
  (repeat (first | refine pass ?_ | refine VC.region (by rfl) (by rfl) ?_ | (refine AO.step fun K hK => ?_; simp only [List.length_replicate, h00, h01, hpz, go_sem, Int.reduceBEq, Int.reduceLE, Int.reduceLT, Int.reduceNeg, Nat.reduceAdd, Nat.reduceEqDiff, Nat.reduceLT, Nat.reduceLeDiff, Nat.reduceMul, Nat.reduceSub, reduceCtorEq, ↓reduceIte]; (first | refine gsel_skip ?_ | refine gsel_go ?_ | skip); (first | refine hK _ _ _ ?_ | refine ⟨by first | omega | exact ⟨_, rfl, rfl⟩ | exact fun _ => ⟨_, rfl, rfl⟩ | (intro h; simp only [List.length_replicate, h00, h01, hpz, h, true_and]; omega) | (clear hK; intro h; simp_all <;> omega), hK _ _ _ ?_⟩); clear hK K) | refine VC.draw mixP (by rfl) (by rfl) ?_ | refine ⟨okd_of (by kernel_rfl), ?_⟩ | refine BQ.other (by decide) ?_ | refine VC.seq ?_ | refine AO.nil ?_ | refine VC.block ?_ | refine VC.condT (by rfl) (by trivial) ?_ | refine VC.condF (by rfl) (by trivial) ?_))
  refine VC.loop (ι := {x : Nat × List Bool // x.1 ≤ s.nodes.length ∧ Seen s.nodes x.2 x.1}) (fun q => [(1, .ref 0 1 0 0), (3, .row 112 s.nodes.length), (24, .c (.sl 10 (s.nodes.map NT.cells))), (25, .c (.v (.int .i64 (s.nodes.length : Int)))), (26, .c (.v (.int .i64 (q.1.1 : Int))))])
    (fun q => [(0, ⟨false, 24, 2, [[.c (.sl 10 (s.nodes.map NT.cells)), .c (.v (.int .i64 s.root))]]⟩), (112, ⟨true, 4, 1, rA bPV q.1.2⟩)]) 800 (fun q => s.nodes.length - q.1.1)
    ⟨(0, (List.replicate s.nodes.length false).set 0 true), Nat.zero_le _, seen_first hpos⟩ ?_ ?_
  · simp only [rA_len, rA_sc, List.length_set, List.length_replicate, Weak, eq_self, used_is, sc_any, sc_c, sc_pp, sc_ref, sc_row, sc_agg, sc_fn, ScL, some_imp, List.forall_mem_map, go_sem, Int.reduceBEq, Int.reduceLE, Int.reduceLT, Int.reduceNeg, Nat.reduceAdd, Nat.reduceEqDiff, Nat.reduceLT, Nat.reduceLeDiff, Nat.reduceMul, Nat.reduceSub, reduceCtorEq, ↓reduceIte]
    exact Nat.le_refl _
  clear hG hR h00 h01
  rintro ⟨⟨i, B⟩, hi, hB⟩
  simp only [] at hi hB ⊢
  have hBl : (rA bPV B).length = s.nodes.length := by rw [rA_len, hB.len]
  refine walkG ?_
  refine VC.cond (by rfl) (by trivial) (fun hc => ?_) (fun hc => ?_)
  · have hlt : i < s.nodes.length := by simp at hc; omega
    obtain ⟨n, hn⟩ : ∃ n, s.nodes[i]? = some n := ⟨s.nodes[i], List.getElem?_eq_getElem hlt⟩
    have hnp : (s.nodes.map NT.cells)[i]? = some n.cells := by rw [List.getElem?_map, hn]; rfl
    have hw : IntKind.i64.wrap ((i : Int) + 1) = (i : Int) + 1 := wrap64_id (by omega) (by omega)
    have hns := hs n (List.mem_of_getElem? hn)
    have hBi : (rA bPV B)[i]? = some [.c (.v (.bool true))] := rA_at (seen_at hB hst hlt)
    have hN := named_told n.kind
    have hF := find_told s n.name
    have hKd := kids_told n hns
    have hkl := kids_len' hns
    simp only [ST.av_eq, scells_mk, NT.av_eq, ncells_mk, List.map_cons, List.map_nil] at hF hKd
    have hne : ((i : Int) != (i : Int)) = false := by simp
    have hkid := hst.1 i n (Nat.zero_le _) hlt hn
    obtain ⟨ks, hks⟩ : ∃ ks, ks = kidsN n := ⟨_, rfl⟩
    rw [← hks] at hKd hkl hkid
    refine walkGF (And.intro hBl (And.intro hnp (And.intro @ncells_mk hBi))) ?_
    refine walkC (hN) ?_
    cases hnm : namedK n.kind with
    | true =>
      rw [right_find hrt hn hnm] at hF
      refine walkG ?_
      refine walkC (hF) ?_
      refine walkBF (hne) ?_
      refine walkC (hKd) ?_
      refine walkG ?_
      refine VC.loop (ι := {y : Nat × List Bool // y.1 ≤ ks.length ∧ Seen s.nodes y.2 i ∧ ∀ x ∈ ks.take y.1, y.2[x.toNat]? = some true})
        (fun q => [(1, .ref 0 1 0 0), (3, .row 112 s.nodes.length), (4, .c (.v (.int .i64 (i : Int)))), (24, .c (.sl 10 (s.nodes.map NT.cells))), (25, .c (.v (.int .i64 (s.nodes.length : Int)))), (26, .c (.v (.int .i64 (i : Int)))), (50, .c (.sl 1 (ks.map iPV))), (51, .c (.v (.int .i64 (ks.length : Int)))), (52, .c (.v (.int .i64 (q.1.1 : Int))))])
        (fun q => [(0, ⟨false, 24, 2, [[.c (.sl 10 (s.nodes.map NT.cells)), .c (.v (.int .i64 s.root))]]⟩), (112, ⟨true, 4, 1, rA bPV q.1.2⟩)]) 4000 (fun q => ks.length - q.1.1)
        ⟨(0, B), Nat.zero_le _, hB, by simp⟩ ?_ ?_
      · simp only [rA_len, rA_sc, Weak, eq_self, used_is, sc_any, sc_c, sc_pp, sc_ref, sc_row, sc_agg, sc_fn, ScL, some_imp, List.forall_mem_map, go_sem, Int.reduceBEq, Int.reduceLE, Int.reduceLT, Int.reduceNeg, Nat.reduceAdd, Nat.reduceEqDiff, Nat.reduceLT, Nat.reduceLeDiff, Nat.reduceMul, Nat.reduceSub, reduceCtorEq, ↓reduceIte]
        first | exact Nat.le_of_eq hB.len.symm | exact Nat.le_of_eq hB.len
      clear hKd hF hN
      rintro ⟨⟨q, D⟩, hq, hD, hp⟩
      simp only [] at hq hD hp ⊢
      have hDl : (rA bPV D).length = s.nodes.length := by rw [rA_len, hD.len]
      refine walkG ?_
      refine VC.cond (by rfl) (by trivial) (fun hc2 => ?_) (fun hc2 => ?_)
      · have hql : q < ks.length := by simp at hc2; omega
        obtain ⟨k, hk⟩ : ∃ k, ks[q]? = some k := ⟨ks[q], List.getElem?_eq_getElem hql⟩
        obtain ⟨k0, k1, k2⟩ := hkid k (List.mem_of_getElem? hk)
        obtain ⟨j, rfl⟩ : ∃ j : Nat, k = (j : Int) := ⟨k.toNat, by omega⟩
        have hj : j < s.nodes.length := by omega
        obtain ⟨m, hm⟩ : ∃ m, s.nodes[j]? = some m := ⟨s.nodes[j], List.getElem?_eq_getElem hj⟩
        have hmp : (s.nodes.map NT.cells)[j]? = some m.cells := by rw [List.getElem?_map, hm]; rfl
        have hkp : (ks.map iPV)[q]? = some (iPV (j : Int)) := by rw [List.getElem?_map, hk]; rfl
        have hwq : IntKind.i64.wrap ((q : Int) + 1) = (q : Int) + 1 := wrap64_id (by omega) (by omega)
        have f0 : decide ((j : Int) < 0) = false := by simp
        have f1 : decide ((j : Int) ≥ (s.nodes.length : Int)) = false := by simp; omega
        have hka : kindAt s.nodes ((j : Int)).toNat = m.kind := by rw [Int.toNat_natCast, kindAt_of hm]
        rw [hka] at k2
        have hNm := named_told m.kind
        obtain ⟨u, hu⟩ : ∃ u, D[j]? = some u := ⟨D[j]'(by rw [hD.len]; exact hj), List.getElem?_eq_getElem _⟩
        have hDj : (rA bPV D)[j]? = some [.c (.v (.bool u))] := rA_at hu
        have hset : (rA bPV D).set j [.c (.v (.bool true))] = rA bPV (D.set j true) := rA_set D j true
        have hsk := seen_kid hD hk (by rw [Int.toNat_natCast]; exact hj) hp
        rw [Int.toNat_natCast] at hsk
        have hnx := hD.set j
        have hDl2 : (rA bPV (D.set j true)).length = s.nodes.length := by rw [rA_len, hnx.len]
        by_cases hki : (j : Int) ≤ (i : Int)
        · have f2 : decide ((j : Int) ≤ (i : Int)) = true := by simpa using hki
          rw [k2 hki] at hNm
          refine walkGF (And.intro hkp (And.intro @iPV_eq (And.intro f0 (And.intro f1 (And.intro f2 (And.intro hmp @ncells_mk)))))) ?_
          refine walkC (hNm) ?_
          refine walkBF (And.intro hDl (And.intro hDj (And.intro hset hwq))) ?_
          refine .next ⟨(q + 1, D.set j true), by simp only []; omega, hnx, hsk⟩ ?_ (by simp only []; omega)
          simp only [rA_sc, hDl2, Weak, eq_self, used_is, sc_any, sc_c, sc_pp, sc_ref, sc_row, sc_agg, sc_fn, ScL, some_imp, List.forall_mem_map, go_sem, Int.reduceBEq, Int.reduceLE, Int.reduceLT, Int.reduceNeg, Nat.reduceAdd, Nat.reduceEqDiff, Nat.reduceLT, Nat.reduceLeDiff, Nat.reduceMul, Nat.reduceSub, reduceCtorEq, ↓reduceIte]
          exact ⟨cI (by omega), Nat.le_refl _⟩
        · have f2 : decide ((j : Int) ≤ (i : Int)) = false := by simpa using hki
          refine walkBF (And.intro hkp (And.intro @iPV_eq (And.intro f0 (And.intro f1 (And.intro f2 (And.intro hDl (And.intro hDj (And.intro hset hwq)))))))) ?_
          refine .next ⟨(q + 1, D.set j true), by simp only []; omega, hnx, hsk⟩ ?_ (by simp only []; omega)
          simp only [rA_sc, hDl2, Weak, eq_self, used_is, sc_any, sc_c, sc_pp, sc_ref, sc_row, sc_agg, sc_fn, ScL, some_imp, List.forall_mem_map, go_sem, Int.reduceBEq, Int.reduceLE, Int.reduceLT, Int.reduceNeg, Nat.reduceAdd, Nat.reduceEqDiff, Nat.reduceLT, Nat.reduceLeDiff, Nat.reduceMul, Nat.reduceSub, reduceCtorEq, ↓reduceIte]
          exact ⟨cI (by omega), Nat.le_refl _⟩
      · have hqe : q = ks.length := by simp at hc2; omega
        have hnx : Seen s.nodes D (i + 1) := hD.next hn (by rw [← hks]; intro x hx; exact hp x (by rw [hqe, List.take_length]; exact hx))
        refine walkGF (hw) ?_
        refine .next ⟨(i + 1, D), by simp only []; omega, hnx⟩ ?_ (by simp only []; omega)
        simp only [rA_sc, hDl, Weak, eq_self, used_is, sc_any, sc_c, sc_pp, sc_ref, sc_row, sc_agg, sc_fn, ScL, some_imp, List.forall_mem_map, go_sem, Int.reduceBEq, Int.reduceLE, Int.reduceLT, Int.reduceNeg, Nat.reduceAdd, Nat.reduceEqDiff, Nat.reduceLT, Nat.reduceLeDiff, Nat.reduceMul, Nat.reduceSub, reduceCtorEq, ↓reduceIte]
        exact ⟨cI (by omega), Nat.le_refl _⟩
    | false =>
      refine walkB ?_
      refine walkC (hKd) ?_
      refine walkG ?_
      refine VC.loop (ι := {y : Nat × List Bool // y.1 ≤ ks.length ∧ Seen s.nodes y.2 i ∧ ∀ x ∈ ks.take y.1, y.2[x.toNat]? = some true})
        (fun q => [(1, .ref 0 1 0 0), (3, .row 112 s.nodes.length), (4, .c (.v (.int .i64 (i : Int)))), (24, .c (.sl 10 (s.nodes.map NT.cells))), (25, .c (.v (.int .i64 (s.nodes.length : Int)))), (26, .c (.v (.int .i64 (i : Int)))), (50, .c (.sl 1 (ks.map iPV))), (51, .c (.v (.int .i64 (ks.length : Int)))), (52, .c (.v (.int .i64 (q.1.1 : Int))))])
        (fun q => [(0, ⟨false, 24, 2, [[.c (.sl 10 (s.nodes.map NT.cells)), .c (.v (.int .i64 s.root))]]⟩), (112, ⟨true, 4, 1, rA bPV q.1.2⟩)]) 4000 (fun q => ks.length - q.1.1)
        ⟨(0, B), Nat.zero_le _, hB, by simp⟩ ?_ ?_
      · simp only [rA_len, rA_sc, Weak, eq_self, used_is, sc_any, sc_c, sc_pp, sc_ref, sc_row, sc_agg, sc_fn, ScL, some_imp, List.forall_mem_map, go_sem, Int.reduceBEq, Int.reduceLE, Int.reduceLT, Int.reduceNeg, Nat.reduceAdd, Nat.reduceEqDiff, Nat.reduceLT, Nat.reduceLeDiff, Nat.reduceMul, Nat.reduceSub, reduceCtorEq, ↓reduceIte]
        first | exact Nat.le_of_eq hB.len.symm | exact Nat.le_of_eq hB.len
      clear hKd hF hN
      rintro ⟨⟨q, D⟩, hq, hD, hp⟩
      simp only [] at hq hD hp ⊢
      have hDl : (rA bPV D).length = s.nodes.length := by rw [rA_len, hD.len]
      refine walkG ?_
      refine VC.cond (by rfl) (by trivial) (fun hc2 => ?_) (fun hc2 => ?_)
      · have hql : q < ks.length := by simp at hc2; omega
        obtain ⟨k, hk⟩ : ∃ k, ks[q]? = some k := ⟨ks[q], List.getElem?_eq_getElem hql⟩
        obtain ⟨k0, k1, k2⟩ := hkid k (List.mem_of_getElem? hk)
        obtain ⟨j, rfl⟩ : ∃ j : Nat, k = (j : Int) := ⟨k.toNat, by omega⟩
        have hj : j < s.nodes.length := by omega
        obtain ⟨m, hm⟩ : ∃ m, s.nodes[j]? = some m := ⟨s.nodes[j], List.getElem?_eq_getElem hj⟩
        have hmp : (s.nodes.map NT.cells)[j]? = some m.cells := by rw [List.getElem?_map, hm]; rfl
        have hkp : (ks.map iPV)[q]? = some (iPV (j : Int)) := by rw [List.getElem?_map, hk]; rfl
        have hwq : IntKind.i64.wrap ((q : Int) + 1) = (q : Int) + 1 := wrap64_id (by omega) (by omega)
        have f0 : decide ((j : Int) < 0) = false := by simp
        have f1 : decide ((j : Int) ≥ (s.nodes.length : Int)) = false := by simp; omega
        have hka : kindAt s.nodes ((j : Int)).toNat = m.kind := by rw [Int.toNat_natCast, kindAt_of hm]
        rw [hka] at k2
        have hNm := named_told m.kind
        obtain ⟨u, hu⟩ : ∃ u, D[j]? = some u := ⟨D[j]'(by rw [hD.len]; exact hj), List.getElem?_eq_getElem _⟩
        have hDj : (rA bPV D)[j]? = some [.c (.v (.bool u))] := rA_at hu
        have hset : (rA bPV D).set j [.c (.v (.bool true))] = rA bPV (D.set j true) := rA_set D j true
        have hsk := seen_kid hD hk (by rw [Int.toNat_natCast]; exact hj) hp
        rw [Int.toNat_natCast] at hsk
        have hnx := hD.set j
        have hDl2 : (rA bPV (D.set j true)).length = s.nodes.length := by rw [rA_len, hnx.len]
        by_cases hki : (j : Int) ≤ (i : Int)
        · have f2 : decide ((j : Int) ≤ (i : Int)) = true := by simpa using hki
          rw [k2 hki] at hNm
          refine walkGF (And.intro hkp (And.intro @iPV_eq (And.intro f0 (And.intro f1 (And.intro f2 (And.intro hmp @ncells_mk)))))) ?_
          refine walkC (hNm) ?_
          refine walkBF (And.intro hDl (And.intro hDj (And.intro hset hwq))) ?_
          refine .next ⟨(q + 1, D.set j true), by simp only []; omega, hnx, hsk⟩ ?_ (by simp only []; omega)
          simp only [rA_sc, hDl2, Weak, eq_self, used_is, sc_any, sc_c, sc_pp, sc_ref, sc_row, sc_agg, sc_fn, ScL, some_imp, List.forall_mem_map, go_sem, Int.reduceBEq, Int.reduceLE, Int.reduceLT, Int.reduceNeg, Nat.reduceAdd, Nat.reduceEqDiff, Nat.reduceLT, Nat.reduceLeDiff, Nat.reduceMul, Nat.reduceSub, reduceCtorEq, ↓reduceIte]
          exact ⟨cI (by omega), Nat.le_refl _⟩
        · have f2 : decide ((j : Int) ≤ (i : Int)) = false := by simpa using hki
          refine walkBF (And.intro hkp (And.intro @iPV_eq (And.intro f0 (And.intro f1 (And.intro f2 (And.intro hDl (And.intro hDj (And.intro hset hwq)))))))) ?_
          refine .next ⟨(q + 1, D.set j true), by simp only []; omega, hnx, hsk⟩ ?_ (by simp only []; omega)
          simp only [rA_sc, hDl2, Weak, eq_self, used_is, sc_any, sc_c, sc_pp, sc_ref, sc_row, sc_agg, sc_fn, ScL, some_imp, List.forall_mem_map, go_sem, Int.reduceBEq, Int.reduceLE, Int.reduceLT, Int.reduceNeg, Nat.reduceAdd, Nat.reduceEqDiff, Nat.reduceLT, Nat.reduceLeDiff, Nat.reduceMul, Nat.reduceSub, reduceCtorEq, ↓reduceIte]
          exact ⟨cI (by omega), Nat.le_refl _⟩
      · have hqe : q = ks.length := by simp at hc2; omega
        have hnx : Seen s.nodes D (i + 1) := hD.next hn (by rw [← hks]; intro x hx; exact hp x (by rw [hqe, List.take_length]; exact hx))
        refine walkGF (hw) ?_
        refine .next ⟨(i + 1, D), by simp only []; omega, hnx⟩ ?_ (by simp only []; omega)
        simp only [rA_sc, hDl, Weak, eq_self, used_is, sc_any, sc_c, sc_pp, sc_ref, sc_row, sc_agg, sc_fn, ScL, some_imp, List.forall_mem_map, go_sem, Int.reduceBEq, Int.reduceLE, Int.reduceLT, Int.reduceNeg, Nat.reduceAdd, Nat.reduceEqDiff, Nat.reduceLT, Nat.reduceLeDiff, Nat.reduceMul, Nat.reduceSub, reduceCtorEq, ↓reduceIte]
        exact ⟨cI (by omega), Nat.le_refl _⟩
  · refine walkG ?_
    refine ⟨by first | exact .inr rfl | exact .inl rfl, ?_⟩; rw [Tryd.results3]; simp only [resOk, resV, go_sem, Int.reduceBEq, Int.reduceLE, Int.reduceLT, Int.reduceNeg, Nat.reduceAdd, Nat.reduceEqDiff, Nat.reduceLT, Nat.reduceLeDiff, Nat.reduceMul, Nat.reduceSub, reduceCtorEq, ↓reduceIte]
    exact .c _

end Go.Proofs.YtmmffaelkoinlaaDoor
