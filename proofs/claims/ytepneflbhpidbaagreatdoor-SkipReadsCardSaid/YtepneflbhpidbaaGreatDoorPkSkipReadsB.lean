/- Texts that lead to the law SkipReads, joined. -/
import Derived.Test.YtepneflbhpidbaaGreatDoorPkSkipReadsXAbB
import Derived.Test.YtepneflbhpidbaaGreatDoorPkSkipReadsA
import Derived.Test.YtepneflbhpidbaaGreatDoorPkSkipReadsXTy
import Derived.RangeFuncNested
import Derived.RangeFuncBound
import Derived.RangeFuncCalls
import Derived.RangeFuncLeaves
import Derived.RangeFuncBox
import Derived.Shelf.Abstract
import Derived.Shelf.RegionOpen
import Derived.WalkKit
import Derived.OwnWalkIn
import Derived.TacticsInMore
import Derived.LoopNIn
import Derived.LoopIn
import Derived.Maps.AppendAt
import Derived.Sort.EveryDepth
import Derived.Test.YtepneflbhpidbaaGreatDoorPkSkipReadsXShelf
import Derived.Sort.OwnSorted
import Derived.Test.YtepneflbhpidbaaGreatDoorShi
namespace Go.Proofs.YtepneflbhpidbaaGreatDoor
set_option maxRecDepth 100000
set_option maxHeartbeats 6400000
open Go.RowKit
set_option linter.unusedVariables false
set_option linter.unusedSimpArgs false
section
section
variable {P : Program} {N : Nat} {Q : Exit → ASt → Prop}
theorem VC.nilH {c : Code} {t : Nat → AV} {h : Nat → Option Blkd} {n : Nat} (j o : Nat) (T : TypeId) (z : Nat) (B : Blkd) (e : List AV) (hB : h j = some B) (hrow : B.row = false) (he : B.elems = [e]) (ho : e[o]? = some (.c (.v (.slice none 0 0)))) (hn : Nat.ble (n + 1) L0 = true)
  (hv : VC P N c ⟨t, upd (upd h n (some ⟨true, T, z, []⟩)) j (some ⟨false, B.T, B.z, [e.set o (.row n 0)]⟩), n + 8⟩ Q) : VC P N c ⟨t, h, n⟩ Q := ⟨fun C a W r => by
 obtain ⟨ro, φ, r⟩ := r
 have hn := Nat.le_of_ble_eq_true hn
 have hnu : ¬ Used n n := fun hu => by unfold Used at hu; omega
 have hjn : j ≠ n := fun e => hnu (e ▸ (r.scH j B hB).1)
 have r2 : Rel C (fun j => Used n j ∨ j = n) N t (upd h n (some ⟨true, T, z, []⟩)) ro (upd φ n (.slice none 0 0)) a W :=
  r.block (W' := W) (Keeps.refl _ _) (fun b hb => by simp [blkOf] at hb) (.inr hnu)
   ⟨fun i e he => by simp at he, fun e he => by simp at he, [], ⟨rfl, fun j x v hx => by simp at hx⟩, by rw [if_pos rfl, upd_same]; exact World.ownsRow_nil W 0 T z⟩ (fun e he => by simp at he)
 have r3 := r2.take (used' := Used (n + 8)) fun j hj => by
  unfold Used at hj ⊢
  omega
 have hB3 : upd h n (some ⟨true, T, z, []⟩) j = some B := by rw [upd_ne _ _ hjn]; exact hB
 obtain ⟨b1, b2, vs, b3, b4⟩ := r3.hp j B hB3
 have helen : e.length = B.z := b1 0 e (by rw [he]; rfl)
 have hol := (List.getElem?_eq_some_iff.1 ho).1
 rw [he, List.flatten_cons, List.flatten_nil, List.append_nil] at b3
 have hg : ∀ k B', Used (n + 8) k → upd (upd h n (some ⟨true, T, z, []⟩)) j (some ⟨false, B.T, B.z, [e.set o (.row n 0)]⟩) k = some B' → ∃ B0, upd h n (some ⟨true, T, z, []⟩) k = some B0 ∧ (B0.len < B'.len ∨ (B0.len = B'.len ∧ B0.z = B'.z ∧ upd (upd φ n (.slice none 0 0)) j (upd φ n (.slice none 0 0) j) k = upd φ n (.slice none 0 0) k)) := by
  intro k B' hk hB'
  by_cases hkj : k = j
  · subst hkj
    rw [upd_same] at hB'
    obtain rfl := Option.some.inj hB'
    exact ⟨B, hB3, .inr ⟨by unfold Blkd.len; rw [he]; rfl, rfl, by rw [upd_same]⟩⟩
  · rw [upd_ne _ _ hkj] at hB'
    exact ⟨B', hB', .inr ⟨rfl, rfl, upd_ne _ _ hkj⟩⟩
 have hnew : ∀ (i : Nat) (x : AV), (e.set o (.row n 0))[i]? = some x → (i = o ∧ x = .row n 0) ∨ (i ≠ o ∧ e[i]? = some x) := by
  intro i x hx
  by_cases hio : i = o
  · subst hio
    rw [List.getElem?_set_self hol] at hx
    exact .inl ⟨rfl, (Option.some.inj hx).symm⟩
  · rw [List.getElem?_set_ne (fun e => hio e.symm)] at hx
    exact .inr ⟨hio, hx⟩
 have hrow0 : ∀ v : Value, v = .slice none 0 0 → Rep W ro (upd (upd φ n (.slice none 0 0)) j (upd φ n (.slice none 0 0) j)) (upd (upd h n (some ⟨true, T, z, []⟩)) j (some ⟨false, B.T, B.z, [e.set o (.row n 0)]⟩)) (.row n 0) v := by
  rintro v rfl
  refine .row rfl fun B' hB' _ => ?_
  rw [upd_ne _ _ (fun e => hjn e.symm), upd_same]
 have hscn : Sc (fun k => Used (n + 8) k ∨ k = j) (upd (upd h n (some ⟨true, T, z, []⟩)) j (some ⟨false, B.T, B.z, [e.set o (.row n 0)]⟩)) (.row n 0) := by
  refine .row (.inl (by unfold Used; omega)) fun B' hB' => Nat.zero_le _
 have r4 := r3.block (W' := W) (ℓ := j) (B := ⟨false, B.T, B.z, [e.set o (.row n 0)]⟩) (v := upd φ n (.slice none 0 0) j) (Keeps.refl _ _) (fun b hb => .inr ⟨B, hB3, hb⟩)
  (.inl ⟨B, hB3, .inr ⟨by unfold Blkd.len; rw [he]; rfl, rfl, rfl⟩⟩)
  ⟨fun i e' he' => by
    match i, he' with
    | 0, he' => obtain rfl := Option.some.inj he'; simpa using helen,
   fun e' he' x hx => by
    obtain rfl := List.mem_singleton.1 he'
    obtain ⟨i, hi, hxi⟩ := List.getElem_of_mem hx
    rcases hnew i x (by rw [List.getElem?_eq_getElem hi, hxi]) with ⟨_, rfl⟩ | ⟨_, h5⟩
    · rfl
    · exact b2 e (by rw [he]; exact List.mem_singleton.2 rfl) x (List.mem_of_getElem? h5),
   vs, by
    refine ⟨by simpa using b3.1, fun i x v hx hvv => ?_⟩
    simp only [List.flatten_cons, List.flatten_nil, List.append_nil] at hx
    rcases hnew i x hx with ⟨rfl, rfl⟩ | ⟨_, h5⟩
    · exact hrow0 v (rep_prim (b3.2 i _ v ho hvv))
    · exact (b3.2 i x v h5 hvv).map ((r3.scH j B hB3).2 e (by rw [he]; exact List.mem_singleton.2 rfl) x (List.mem_of_getElem? h5)) (fun _ _ => rfl) (fun _ h => h) hg, by
    rw [if_neg (by simp)]
    rw [if_neg (by simp [hrow])] at b4
    rw [upd_same]
    exact b4⟩
  (fun e' he' x hx => by
   obtain rfl := List.mem_singleton.1 he'
   obtain ⟨i, hi, hxi⟩ := List.getElem_of_mem hx
   rcases hnew i x (by rw [List.getElem?_eq_getElem hi, hxi]) with ⟨_, rfl⟩ | ⟨_, h5⟩
   · exact hscn
   · refine ((r3.scH j B hB3).2 e (by rw [he]; exact List.mem_singleton.2 rfl) x (List.mem_of_getElem? h5)).map (fun k hk => .inl hk) fun k B' hk hB' => ?_
     obtain ⟨B0, h6, h7⟩ := hg k B' hk hB'
     exact ⟨B0, h6, by rcases h7 with h7 | h7 <;> omega⟩)
 have r5 := r4.take (used' := Used (n + 8)) fun k hk => by
  rcases hk with hk | rfl
  · exact hk
  · have := (r.scH k B hB).1
    unfold Used at this ⊢
    simp only [] at this
    omega
 exact hv.out C a W ⟨ro, _, r5⟩⟩
end
end
section
attribute [local go_sem] opx opE ev okx gcond bnd okO AV.get AV.okb cAV upd_at putd_some putd_none wrs_nil wrs_cons look_nil look_cons st argT_at bpick_and bpick_or bpick_true bpick_false binV binI binS binVOk binOk isShift binSOk unV unVOk loadV loadP cellsA zeroA Blkd.len setE grown moreA moreR moreOk eqRes pv fillA fillE putSeg AV.cellish AV.pureL AV.pureB lentL_is ex_some AV.ren AV.renL renL_c Blkd.ren rho wrM renN lentOk rhoE keepM endOk tyA_2 tyA_3 tyA_4 tyA_5 tyA_6 tyA_7 tyA_8 tyA_9 tyA_10 tyA_11 tyA_12 tyA_13 tyA_14 tyA_15 tyA_16 tyA_17 tyA_18 tyA_19 tyA_21 tyA_22 tyA_23 tyA_24 tyA_29 tyA_30 tyA_31 tyA_32 tyA_33 tyA_34 tyA_35 tyA_36 tyA_37 tyA_38 tyA_39 tyA_40 tyA_41 tyA_42 tyA_43 tyA_48 tyA_72 tyA_76 tyA_85 tyA_86 tyA_87 tyA_88 tyA_97 tyA_100 tyA_101 tyA_102 tyA_103 tyA_104 tyA_105 tyA_106 tyA_128 tyA_137 tyA_138 tyA_139 tyA_140 tyA_141 tyA_142 tyA_147 tyA_148 tyA_149 tyA_167 tyA_168 tyA_169 tyA_170 tyA_172 tyA_176 tyA_177 tyA_178 tyA_186 tyA_196 tyA_231 tyA_232 tyA_233 tyA_257 tyA_262 tyA_268 tyA_270 tyA_272 tyA_281 tyA_285 tyA_287 tyA_290 tyA_291 tyA_292 tyA_293 tyA_294 tyA_295 tyA_296 tyA_298 tyA_299 Option.map_some Option.map_none Option.getD_some Option.getD_none Option.bind_some Option.bind_none List.getElem?_cons_zero List.getElem?_cons_succ List.getElem?_nil List.getElem?_toArray List.length_cons List.length_nil List.length_map List.forall_mem_map List.map_cons List.map_nil List.drop_zero List.drop_succ_cons List.drop_nil List.take_zero List.take_succ_cons List.take_nil List.mem_cons List.not_mem_nil or_false forall_eq_or_imp forall_eq List.set_cons_zero List.set_cons_succ List.cons_append List.nil_append List.append_nil List.foldl_cons List.foldl_nil List.replicate_succ List.replicate_zero List.all_cons List.all_nil if_true if_false Bool.false_eq_true ne_eq not_false_eq_true not_true_eq_false true_and and_true and_self true_implies imp_self implies_true forall_const beq_self_eq_true Bool.and_true Bool.true_and Bool.and_false Bool.false_and Bool.or_true Bool.true_or Bool.or_false Bool.false_or Bool.not_true Bool.not_false Bool.not_eq_eq_eq_not intKindOf Value.oneCell' Int.toNat_natCast beq_true beq_false Bool.not_eq_true false_implies false_or true_or or_true Nat.zero_add Nat.add_zero decide_true decide_false Int.cast_ofNat_Int Int.toNat_zero Int.toNat_one eq_self

inductive FQ (Q : Exit → ASt → Prop) : Exit → ASt → Prop
 | frz {e : Exit} {σ : ASt} (F : List Nat) (l : List (Nat × AV)) (hl : List (Nat × Blkd)) (n : Nat) (hw : WeakF σ F l hl n) (h : Q e (st l hl n)) : FQ Q e σ
theorem VC.late {P : Program} {N : Nat} {c : Code} {σ : ASt} {Q : Exit → ASt → Prop} (h : VC P N c σ (FQ Q)) : VC P N c σ Q := ⟨fun C a W r => Code.wp_mono (fun e a' W' ⟨σ', h1, h2⟩ => by
 cases h1 with
 | frz F l hl n hw h => exact ⟨_, h, relS_frz h2 hw⟩) (h.out C a W r)⟩
def v0B (k : Int) : Blkd := ⟨false, 43, 6, [[.c (.v (.int .i64 k)), .c (.v (.int .i64 0)), .c (.v (.int .u64 0)), .c (.v (.slice none 0 0)), .c (.v (.slice none 0 0)), .c (.v (.slice none 0 0))]]⟩
def vvB (v : VT) : Blkd := ⟨false, 43, 6, [v.cells.map .c]⟩
def zc : List AV := [.c (.v (.int .i64 0)), .c (.v (.int .i64 0)), .c (.v (.int .u64 0)), .c (.v (.slice none 0 0)), .c (.v (.slice none 0 0)), .c (.v (.slice none 0 0))]
theorem zc_len (xs : List VT) : (rA VT.cells xs ++ [zc]).length = xs.length + 1 := by simp [rA_len]
theorem zc_at (xs : List VT) : (rA VT.cells xs ++ [zc])[xs.length]? = some zc := by
 rw [List.getElem?_append_right (by rw [rA_len]; exact Nat.le_refl _), rA_len, Nat.sub_self]
 rfl
theorem zc_set (xs : List VT) (v : VT) : (rA VT.cells xs ++ [zc]).set xs.length (v.cells.map .c) = rA VT.cells (xs ++ [v]) := by
 rw [List.set_append_right _ _ (by rw [rA_len]; exact Nat.le_refl _), rA_len, Nat.sub_self, List.set_cons_zero, rA_vv]
def fldS (val : Int → Nat → Int → VT × Nat × Int) : List FT → List VT → Nat → Int → List VT × Nat × Int
 | [], xs, p, e => (xs, p, e)
 | t :: ts, xs, p, e => if e = 0 then fldS val ts (xs ++ [(val t.type p 0).1]) (val t.type p 0).2.1 (val t.type p 0).2.2 else (xs, p, e)
theorem fldS_got {f : Int → Rd VT} (hf : ∀ a, Fair (f a)) {B : List UInt8} {val : Int → Nat → Int → VT × Nat × Int} : ∀ (ts : List FT) (hv : ∀ t ∈ ts, ∀ p e, p ≤ B.length → Got (f t.type B p) B e (val t.type p e).1 (val t.type p e).2.1 (val t.type p e).2.2) (xs : List VT) (p : Nat) (e : Int), p ≤ B.length →
  Got (rfields f ts xs B p) B e (fldS val ts xs p e).1 (fldS val ts xs p e).2.1 (fldS val ts xs p e).2.2
 | [], hv, xs, p, e, hp => by
   rw [fldS, rfields]
   refine ⟨hp, fun _ => rfl, fun x _ hx => ?_, fun w q' h0 hx => ?_⟩
   · unfold rret at hx; simp at hx
   · unfold rret at hx
     injection hx with hx
     injection hx with hx hx'
     exact ⟨hx, hx', h0⟩
 | t :: ts, hv, xs, p, e, hp => by
   rw [fldS, rfields]
   by_cases h : e = 0
   · rw [if_pos h]
     subst h
     have hg := hv t (by simp) p 0 hp
     have hi := hg.is (hf t.type)
     have ih := fldS_got hf ts (fun t ht => hv t (by simp [ht])) (xs ++ [(val t.type p 0).1]) (val t.type p 0).2.1 (val t.type p 0).2.2 hg.le
     by_cases h0 : (val t.type p 0).2.2 = 0
     · rw [h0] at ih ⊢
       rw [rbind_ok (hi.1 h0)]
       exact ih
     · have hno := ih.no h0
       refine got_of ih.le (fun h => absurd (hno.symm.trans h) h0) fun _ => ?_
       rw [rbind_bad (hi.2 h0), hno]
   · rw [if_neg h]
     exact ⟨hp, fun _ => rfl, fun x h0 => absurd h0 h, fun w q' h0 => absurd h0 h⟩
theorem dcomp9_told (ns : List NT) (r : Int) (B : List UInt8) (hB : B.length ≤ 1000000) (nd : NT) (hk : nd.kind = 9) (hfl : nd.fields.length ≤ 1000000) (dep : Nat) (val : Int → Nat → Int → VT × Nat × Int) (hV : ∀ t ∈ nd.fields, ValT ns r B t.type dep (val t.type)) (hle : ∀ t ∈ nd.fields, ∀ p e, p ≤ B.length → (val t.type p e).2.1 ≤ B.length)
  (p0 : Nat) (hp0 : p0 ≤ B.length) (e0 : Int) (F : List VT × Nat × Int) (hF : F = fldS val nd.fields [] p0 e0) :
  ToldM Tryz.prog 120 [.ref 1000000 1 0 0, nd.av, .ref 1000001 1 0 0, .c (.v (.int .i64 (dep : Int)))] [dB ns r B p0 e0, v0B nd.kind] [some (dB ns r B F.2.1 F.2.2), some (vvB (.mk nd.kind 0 0 [] F.1 []))] (.tup []) := by
 have e9 : (nd.kind == 9) = true := by simpa using hk
 rw [NT.av_eq]
 unfold dB v0B vvB
 rw [vcells_mk]
 refine VC.toldX ent_120 [] Tryz.func120 rfl Tryz.ntmps120 fun hb hbL => ?_
 clear hb hbL
 refine walkBF (And.intro @ncells_mk e9) ?_
 refine VC.nilH 1000001 4 43 6 ⟨false, 43, 6, [[.c (.v (.int .i64 nd.kind)), .c (.v (.int .i64 0)), .c (.v (.int .u64 0)), .c (.v (.slice none 0 0)), .c (.v (.slice none 0 0)), .c (.v (.slice none 0 0))]]⟩ [.c (.v (.int .i64 nd.kind)), .c (.v (.int .i64 0)), .c (.v (.int .u64 0)), .c (.v (.slice none 0 0)), .c (.v (.slice none 0 0)), .c (.v (.slice none 0 0))] rfl rfl rfl rfl (by rfl) ?_
 refine VC.loop (ι := {s : Nat × List VT × Nat × Int // s.1 ≤ nd.fields.length ∧ s.2.1.length = s.1 ∧ s.2.2.1 ≤ B.length ∧ F = fldS val (nd.fields.drop s.1) s.2.1 s.2.2.1 s.2.2.2})
  (fun s => [(0, .ref 1000000 1 0 0), (2, .ref 1000001 1 0 0), (3, .c (.v (.int .i64 (dep : Int)))), (5, .ref 0 1 0 0), (28, .c (.sl 9 (nd.fields.map FT.cells))), (29, .c (.v (.int .i64 (nd.fields.length : Int)))), (30, .c (.v (.int .i64 (s.1.1 : Int))))])
  (fun s => [(0, ⟨false, 33, 10, [nd.cells.map .c]⟩), (72, ⟨true, 43, 6, rA VT.cells s.1.2.1⟩), (1000001, ⟨false, 43, 6, [[.c (.v (.int .i64 nd.kind)), .c (.v (.int .i64 0)), .c (.v (.int .u64 0)), .c (.v (.slice none 0 0)), .row 72 s.1.2.1.length, .c (.v (.slice none 0 0))]]⟩),
   (1000000, ⟨false, 106, 5, [[.c (.sl 10 (ns.map NT.cells)), .c (.v (.int .i64 r)), .c (.sl 1 (bytePV B)), .c (.v (.int .i64 (s.1.2.2.1 : Int))), .c (.v (.int .i64 s.1.2.2.2))]]⟩)]) 2000 (fun s => nd.fields.length - s.1.1)
  ⟨(0, [], p0, e0), Nat.zero_le _, rfl, hp0, hF⟩ ?_ ?_
 · simp only [ncells_mk, rA_len, rA_sc, List.length_map, Weak, eq_self, used_is, sc_any, sc_c, sc_pp, sc_ref, sc_row, sc_agg, sc_fn, ScL, some_imp, List.forall_mem_map, go_sem, Int.reduceBEq, Int.reduceLE, Int.reduceLT, Int.reduceNeg, Nat.reduceAdd, Nat.reduceEqDiff, Nat.reduceLT, Nat.reduceLeDiff, Nat.reduceMul, Nat.reduceSub, reduceCtorEq, ↓reduceIte]
   all_goals first | rfl | exact ⟨rfl, rfl⟩ | exact ⟨⟨rfl, rfl⟩, rfl⟩ | skip
 rintro ⟨⟨i, xs, p, e⟩, h1, h2, h3, h4⟩
 simp only [] at h1 h2 h3 h4 ⊢
 have hxl : (rA VT.cells xs).length = xs.length := rA_len _ _
 have hend : (p, e) = (F.2.1, F.2.2) ∧ xs = F.1 → VC Tryz.prog 0 .skip (st [] [] 0) (fun _ _ => True) := fun _ => VC.skip trivial
 clear hend
 refine walkG ?_
 refine VC.cond (by rfl) (by trivial) (fun hd => ?_) (fun hd => ?_)
 rotate_left
 · have hie : i = nd.fields.length := by simp at hd; omega
   rw [hie, List.drop_length, fldS] at h4
   subst h4
   refine VC.frz [72] [] [(1000001, ⟨false, 43, 6, [(VT.mk nd.kind 0 0 [] xs []).cells.map .c]⟩), (1000000, ⟨false, 106, 5, [[.c (.sl 10 (ns.map NT.cells)), .c (.v (.int .i64 r)), .c (.sl 1 (bytePV B)), .c (.v (.int .i64 (p : Int))), .c (.v (.int .i64 e))]]⟩)] 3000 ?_ ?_
   · simp only [rA_sc, rA_len, WeakF, used_is, sc_any, sc_c, sc_pp, sc_ref, sc_row, sc_agg, sc_fn, ScL, some_imp, List.forall_mem_map, go_sem, Int.reduceBEq, Int.reduceLE, Int.reduceLT, Int.reduceNeg, Nat.reduceAdd, Nat.reduceEqDiff, Nat.reduceLT, Nat.reduceLeDiff, Nat.reduceMul, Nat.reduceSub, reduceCtorEq, ↓reduceIte]
     rw [vcells_mk]
     exact ⟨.one (.cons (.same _) (.cons (.same _) (.cons (.same _) (.cons (.nil 1) (.cons (.row (B := ⟨true, 43, 6, rA VT.cells xs⟩) (es := xs.map VT.cells) (by simp) rfl rfl (rA_len _ _) (rA_pv _ _)) (.cons (.nil 1) .nil)))))) (by simp [AV.cellish]), .same _⟩
   refine walkB ?_
   exact retZF (@vcells_mk) Tryz.results120
 have hlt : i < nd.fields.length := by simp at hd; omega
 obtain ⟨fd, hx⟩ : ∃ fd, nd.fields[i]? = some fd := ⟨nd.fields[i], List.getElem?_eq_getElem hlt⟩
 have hmem := List.mem_of_getElem? hx
 have hxq : (nd.fields.map FT.cells)[i]? = some fd.cells := by rw [List.getElem?_map, hx]; rfl
 have hw : IntKind.i64.wrap ((i : Int) + 1) = ((i + 1 : Nat) : Int) := by rw [wrap64_id (by omega) (by omega)]; omega
 have hdr : nd.fields.drop i = fd :: nd.fields.drop (i + 1) := by
  rw [List.drop_eq_getElem_cons hlt]
  congr 1
  exact Option.some.inj ((List.getElem?_eq_getElem hlt).symm.trans hx)
 by_cases h0 : e = 0
 · subst h0
   have g4 := h4
   rw [hdr, fldS, if_pos rfl] at g4
   have hX := hV fd hmem p 0 h3
   have hql := hle fd hmem p 0 h3
   obtain ⟨v, q2, e2, hvv⟩ : ∃ a b c, val fd.type p 0 = (a, b, c) := ⟨_, _, _, rfl⟩
   rw [hvv] at hX hql g4
   simp only [] at hX hql g4
   rw [VT.av_eq] at hX
   unfold dB at hX
   refine walkBF (And.intro @ncells_mk (And.intro hxq (And.intro @fcells_mk (And.intro @len_fcells (And.intro @take_fcells (And.intro @take_fcellsC (And.intro @len_cells (And.intro @take_cells @take_cellsC)))))))) ?_
   refine walkLF (And.intro @rA_ren @rA_len) [1000000] (hX) ?_
   refine walkBF (And.intro @len_vcells (And.intro @take_vcells (And.intro @take_vcellsC (And.intro hxl (And.intro @rA_vv hw))))) ?_
   refine AO.stepJw rfl (J_buildC _ [.int .i64 0, .int .i64 0, .int .u64 0, .slice none 0 0, .slice none 0 0, .slice none 0 0] _ _ rfl tyA_41 rfl tyA_43 rfl (by decide) rfl (by decide) rfl rfl) ?_
   refine walkBF (And.intro @len_vcells (And.intro @take_vcells (And.intro @take_vcellsC (And.intro hxl (And.intro @rA_vv hw))))) ?_
   (refine AO.step fun K hK => ?_; simp only [go_sem, Int.reduceBEq, Int.reduceLE, Int.reduceLT, Int.reduceNeg, Nat.reduceAdd, Nat.reduceEqDiff, Nat.reduceLT, Nat.reduceLeDiff, Nat.reduceMul, Nat.reduceSub, reduceCtorEq, ↓reduceIte, len_vcells, take_vcells, take_vcellsC, hxl, rA_vv, hw]; (first | refine gsel_go ?_ | skip))
   refine ⟨⟨by simp [rA_len], by omega, by omega⟩, hK _ _ _ ?_⟩
   clear hK K
   have hz1 := zc_at xs
   have hz2 := zc_set xs v
   have hz3 := zc_len xs
   unfold zc at hz1 hz2 hz3
   refine walkBF (And.intro @len_vcells (And.intro @take_vcells (And.intro @take_vcellsC (And.intro hxl (And.intro hz1 (And.intro hz2 (And.intro hz3 hw))))))) ?_
   refine .next ⟨(i + 1, xs ++ [v], q2, e2), hlt, by simp [h2], hql, g4⟩ ?_ (by simp only []; omega)
   simp only [ncells_mk, rA_len, rA_sc, List.length_map, Weak, eq_self, used_is, sc_any, sc_c, sc_pp, sc_ref, sc_row, sc_agg, sc_fn, ScL, some_imp, List.forall_mem_map, go_sem, Int.reduceBEq, Int.reduceLE, Int.reduceLT, Int.reduceNeg, Nat.reduceAdd, Nat.reduceEqDiff, Nat.reduceLT, Nat.reduceLeDiff, Nat.reduceMul, Nat.reduceSub, reduceCtorEq, ↓reduceIte]
   all_goals first | exact ⟨by simp, by simp⟩ | simp
 · have g4 := h4
   rw [hdr, fldS, if_neg h0] at g4
   have e1 : (e != 0) = true := by simpa using h0
   refine VC.frz [72] [(0, .ref 1000000 1 0 0), (28, .c (.sl 9 (nd.fields.map FT.cells))), (30, .c (.v (.int .i64 (i : Int))))] [(1000001, ⟨false, 43, 6, [(VT.mk nd.kind 0 0 [] xs []).cells.map .c]⟩), (1000000, ⟨false, 106, 5, [[.c (.sl 10 (ns.map NT.cells)), .c (.v (.int .i64 r)), .c (.sl 1 (bytePV B)), .c (.v (.int .i64 (p : Int))), .c (.v (.int .i64 e))]]⟩)] 3000 ?_ ?_
   · simp only [rA_sc, rA_len, WeakF, used_is, sc_any, sc_c, sc_pp, sc_ref, sc_row, sc_agg, sc_fn, ScL, some_imp, List.forall_mem_map, go_sem, Int.reduceBEq, Int.reduceLE, Int.reduceLT, Int.reduceNeg, Nat.reduceAdd, Nat.reduceEqDiff, Nat.reduceLT, Nat.reduceLeDiff, Nat.reduceMul, Nat.reduceSub, reduceCtorEq, ↓reduceIte]
     rw [vcells_mk]
     exact ⟨⟨.same _, .same _, .same _⟩, .one (.cons (.same _) (.cons (.same _) (.cons (.same _) (.cons (.nil 1) (.cons (.row (B := ⟨true, 43, 6, rA VT.cells xs⟩) (es := xs.map VT.cells) (by simp) rfl rfl (rA_len _ _) (rA_pv _ _)) (.cons (.nil 1) .nil)))))) (by simp [AV.cellish]), .same _⟩
   refine walkBF (And.intro @ncells_mk (And.intro hxq (And.intro @fcells_mk (And.intro @len_fcells (And.intro @take_fcells (And.intro @take_fcellsC (And.intro @len_cells (And.intro @take_cells (And.intro @take_cellsC e1))))))))) ?_
   rw [g4]
   exact retZF (@vcells_mk) Tryz.results120
def plcS (f : Rd Int) (B : List UInt8) (many p : Nat) (e : Int) : Int × Nat × Int :=
 if (lft f 0 B p e).1 < 0 ∨ (many : Int) ≤ (lft f 0 B p e).1 then (0, (lft f 0 B p e).2.1, if (lft f 0 B p e).2.2 = 0 then 11 else (lft f 0 B p e).2.2) else lft f 0 B p e
theorem plcS_got {f : Rd Int} (hf : Fair f) {B : List UInt8} (many : Nat) {p : Nat} (hp : p ≤ B.length) (e : Int) : Got (rplace f many B p) B e (plcS f B many p e).1 (plcS f B many p e).2.1 (plcS f B many p e).2.2 := by
 unfold plcS rplace
 by_cases h : e = 0
 · subst h
   have hg := got_lft hf 0 hp 0
   have hi := hg.is hf
   generalize lft f 0 B p 0 = L at hg hi
   by_cases h0 : L.2.2 = 0
   · rw [if_pos h0, rbind_ok (hi.1 h0)]
     by_cases h1 : L.1 < 0 ∨ (many : Int) ≤ L.1
     · rw [if_pos h1, if_pos h1]
       exact got_of hg.le (fun h => absurd h (show ¬ ((11 : Int) = 0) by decide)) fun _ => rfl
     · rw [if_neg h1, if_neg h1]
       exact got_of hg.le (fun _ => by rw [h0] at *; rfl) fun h => absurd h0 h
   · rw [if_neg h0, rbind_bad (hi.2 h0)]
     split
     · exact ⟨hg.le, fun h => absurd rfl h, fun x _ hx => by injection hx, fun w q' _ hx => by simp at hx⟩
     · exact ⟨hg.le, fun h => absurd rfl h, fun x _ hx => by injection hx, fun w q' _ hx => by simp at hx⟩
 · rw [lft_e _ _ _ _ h]
   refine ⟨?_, fun _ => ?_, fun x h0 => absurd h0 h, fun w q' h0 => absurd h0 h⟩
   · split <;> exact hp
   · split <;> simp [h]
theorem plcS_in {f : Rd Int} {B : List UInt8} {many p : Nat} {e : Int} (h : (plcS f B many p e).2.2 = 0) : 0 ≤ (plcS f B many p e).1 ∧ (plcS f B many p e).1 < (many : Int) := by
 unfold plcS at h ⊢
 split at h
 · simp only [] at h
   split at h
   · simp at h
   · contradiction
 · rename_i h1
   rw [if_neg h1]
   omega
theorem dplace_told {g : FuncId} (f : Rd Int) (ns : List NT) (r : Int) (B : List UInt8) (p : Nat) (e : Int) (many : Nat) (hg : Told Tryz.prog g [.agg ((rC B p e).map .c)] (.tup [.c (.v (.int .i64 (lft f 0 B p e).1)), .agg ((rC B (lft f 0 B p e).2.1 (lft f 0 B p e).2.2).map .c)])) :
  ToldM Tryz.prog 118 [.ref 1000000 1 0 0, .fn (.func g) [] [], .c (.v (.int .i64 (many : Int)))] [dB ns r B p e] [some (dB ns r B (plcS f B many p e).2.1 (plcS f B many p e).2.2)] (.c (.v (.int .i64 (plcS f B many p e).1))) := by
 have h := dplace_any ns r B p _ e _ _ many (dnumber_told ns r B p _ e _ _ hg)
 unfold plcS
 by_cases h1 : (lft f 0 B p e).1 < 0 ∨ (many : Int) ≤ (lft f 0 B p e).1
 · rw [if_pos h1, if_pos h1] at h
   rw [if_pos h1]
   exact h
 · rw [if_neg h1, if_neg h1] at h
   rw [if_neg h1]
   exact h
theorem dcomp13_told (ns : List NT) (r : Int) (B : List UInt8) (hB : B.length ≤ 1000000) (nd : NT) (hk : nd.kind = 13) (hbl : nd.branches.length ≤ 1000000) (dep : Nat) (val : Int → Nat → Int → VT × Nat × Int) (hV : ∀ a ∈ nd.branches, ValT ns r B a dep (val a))
  (p0 : Nat) (hp0 : p0 ≤ B.length) (e0 : Int) (P : Int × Nat × Int) (hP : P = plcS rlong B nd.branches.length p0 e0) (F : List VT × Nat × Int) (hF : F = if P.2.2 = 0 then ([(val (branchAt nd P.1) P.2.1 0).1], (val (branchAt nd P.1) P.2.1 0).2) else ([], P.2)) :
  ToldM Tryz.prog 120 [.ref 1000000 1 0 0, nd.av, .ref 1000001 1 0 0, .c (.v (.int .i64 (dep : Int)))] [dB ns r B p0 e0, v0B nd.kind] [some (dB ns r B F.2.1 F.2.2), some (vvB (.mk nd.kind P.1 0 [] F.1 []))] (.tup []) := by
 have e9 : (nd.kind == 9) = false := by simp; omega
 have e13 : (nd.kind == 13) = true := by simpa using hk
 have hPl := dplace_told rlong ns r B p0 e0 nd.branches.length (wlong_told B hB p0 hp0 e0)
 have hgl := (plcS_got fair_long nd.branches.length hp0 e0).le
 have hin := plcS_in (f := rlong) (B := B) (many := nd.branches.length) (p := p0) (e := e0)
 rw [← hP] at hPl hgl hin
 obtain ⟨N, q, E⟩ := P
 clear hP
 simp only [] at hPl hgl hin hF ⊢
 rw [NT.av_eq]
 unfold dB v0B vvB at *
 rw [vcells_mk]
 by_cases h0 : E = 0
 · rw [if_pos h0] at hF
   subst h0
   obtain ⟨n1, n2⟩ := hin rfl
   have hlt : N.toNat < nd.branches.length := by omega
   have hba : nd.branches[N.toNat]? = some (branchAt nd N) := by rw [branchAt, List.getElem?_eq_getElem hlt]
   have hbp : (nd.branches.map iPV)[N.toNat]? = some [.v (.int .i64 (branchAt nd N))] := by rw [List.getElem?_map, hba]; rfl
   have hX := hV _ (List.mem_of_getElem? hba) q 0 hgl
   generalize branchAt nd N = a at hX hF hbp
   obtain ⟨v, q2, e2, hvv⟩ : ∃ x y z, val a q 0 = (x, y, z) := ⟨_, _, _, rfl⟩
   rw [hvv] at hX hF
   simp only [] at hX hF
   rw [VT.av_eq] at hX
   unfold dB at hX
   subst hF
   refine VC.toldX ent_120 [] Tryz.func120 rfl Tryz.ntmps120 fun hb hbL => ?_
   clear hb hbL
   refine VC.late ?_
   refine walkBF (And.intro @ncells_mk (And.intro e9 e13)) ?_
   refine walkL [1000000] (hPl) ?_
   refine walkBF (And.intro @ncells_mk hbp) ?_
   refine walkL [1000000] (hX) ?_
   refine walkBF (And.intro @len_vcells (And.intro @take_vcells @take_vcellsC)) ?_
   refine .frz [272] [] [(1000001, ⟨false, 43, 6, [(VT.mk nd.kind N 0 [] [v] []).cells.map .c]⟩), (1000000, ⟨false, 106, 5, [[.c (.sl 10 (ns.map NT.cells)), .c (.v (.int .i64 r)), .c (.sl 1 (bytePV B)), .c (.v (.int .i64 (q2 : Int))), .c (.v (.int .i64 e2))]]⟩)] 3000 ?_ ?_
   · simp only [rA_sc, rA_len, WeakF, used_is, sc_any, sc_c, sc_pp, sc_ref, sc_row, sc_agg, sc_fn, ScL, some_imp, List.forall_mem_map, go_sem, Int.reduceBEq, Int.reduceLE, Int.reduceLT, Int.reduceNeg, Nat.reduceAdd, Nat.reduceEqDiff, Nat.reduceLT, Nat.reduceLeDiff, Nat.reduceMul, Nat.reduceSub, reduceCtorEq, ↓reduceIte]
     rw [vcells_mk]
     exact ⟨.one (.cons (.same _) (.cons (.same _) (.cons (.same _) (.cons (.nil 1) (.cons (.row (B := ⟨true, 43, 6, [v.cells.map .c]⟩) (es := [v.cells]) (by simp) rfl rfl rfl rfl) (.cons (.nil 1) .nil)))))) (by simp [AV.cellish]), .same _⟩
   exact retZF (@vcells_mk) Tryz.results120
 · rw [if_neg h0] at hF
   subst hF
   have e1 : (E == 0) = false := by simpa using h0
   refine VC.toldX ent_120 [] Tryz.func120 rfl Tryz.ntmps120 fun hb hbL => ?_
   clear hb hbL
   refine VC.late ?_
   refine walkBF (And.intro @ncells_mk (And.intro e9 e13)) ?_
   refine walkL [1000000] (hPl) ?_
   refine walkBF (e1) ?_
   refine .frz [] [] [(1000001, ⟨false, 43, 6, [(VT.mk nd.kind N 0 [] [] []).cells.map .c]⟩), (1000000, ⟨false, 106, 5, [[.c (.sl 10 (ns.map NT.cells)), .c (.v (.int .i64 r)), .c (.sl 1 (bytePV B)), .c (.v (.int .i64 (q : Int))), .c (.v (.int .i64 E))]]⟩)] 3000 ?_ ?_
   · simp only [rA_sc, rA_len, WeakF, used_is, sc_any, sc_c, sc_pp, sc_ref, sc_row, sc_agg, sc_fn, ScL, some_imp, List.forall_mem_map, go_sem, Int.reduceBEq, Int.reduceLE, Int.reduceLT, Int.reduceNeg, Nat.reduceAdd, Nat.reduceEqDiff, Nat.reduceLT, Nat.reduceLeDiff, Nat.reduceMul, Nat.reduceSub, reduceCtorEq, ↓reduceIte]
     rw [vcells_mk]
     exact ⟨.one (.cons (.same _) (.cons (.same _) (.cons (.same _) (.cons (.nil 1) (.cons (.nil 6) (.cons (.nil 1) .nil)))))) (by simp [AV.cellish]), .same _⟩
   exact retZF (@vcells_mk) Tryz.results120
theorem dcount_bad (ns : List NT) (r : Int) (B : List UInt8) (hB : B.length ≤ 1000000) (p : Nat) (hp : p ≤ B.length) (e : Int) (he : e ≠ 0) :
  ToldM Tryz.prog 208 [.ref 1000000 1 0 0, .c (.v (.int .i64 0))] [dB ns r B p e] [some (dB ns r B p e)] (.c (.v (.int .i64 0))) := by
 have hL := wlong_told B hB p hp e
 rw [lft_e _ _ _ _ he] at hL
 have hN := dnumber_told ns r B p p e e 0 hL
 have e1 : (e != 0) = true := by simpa using he
 have hw : IntKind.i64.wrap (300 - 0) = 300 := by decide
 have hz : decide ((0 : Int) > 300) = false := by decide
 unfold dB at *
 refine VC.toldX ent_208 [] Tryz.func208 rfl Tryz.ntmps208 fun hb hbL => ?_
 clear hb hbL
 refine walkG ?_
 refine walkL [1000000] (hN) ?_
 refine walkBF (And.intro hw (And.intro hz e1)) ?_
 refine retX Tryz.results208 ?_
 exact .c _
theorem ditems_bad (ns : List NT) (r : Int) (B : List UInt8) (hB : B.length ≤ 1000000) (nd : NT) (dep : Nat) (p : Nat) (hp : p ≤ B.length) (e : Int) (he : e ≠ 0) :
  ToldM Tryz.prog 170 [.ref 1000000 1 0 0, nd.av, .c (.v (.int .i64 (dep : Int)))] [dB ns r B p e] [some (dB ns r B p e)] (.tup [.c (.sl 6 (([] : List VT).map VT.cells)), .c (.sl 1 (([] : List (List UInt8)).map sPV))]) := by
 have hC := dcount_bad ns r B hB p hp e he
 have hz : decide ((0 : Int) > 0) = false := by decide
 rw [NT.av_eq]
 unfold dB at *
 refine VC.toldX ent_170 [] Tryz.func170 rfl Tryz.ntmps170 fun hb hbL => ?_
 clear hb hbL
 refine walkG ?_
 refine walkL [1000000] (hC) ?_
 refine walkG ?_
 refine VC.loop (ι := Unit) (fun _ => [(0, .ref 1000000 1 0 0), (6, .c (.v (.slice none 0 0))), (7, .c (.v (.slice none 0 0))), (8, .c (.v (.int .i64 0)))])
  (fun _ => [(1000000, ⟨false, 106, 5, [[.c (.sl 10 (ns.map NT.cells)), .c (.v (.int .i64 r)), .c (.sl 1 (bytePV B)), .c (.v (.int .i64 (p : Int))), .c (.v (.int .i64 e))]]⟩)]) 800 (fun _ => 0) () ?_ ?_
 · exact weakZF (@ncells_mk)
 rintro ⟨⟩
 refine walkBF (hz) ?_
 refine retX Tryz.results170 ?_
 exact ⟨.nil 6, .nil 1⟩
theorem dcomp11_told (ns : List NT) (r : Int) (B : List UInt8) (nd : NT) (hk : nd.kind = 11 ∨ nd.kind = 12) (dep : Nat) (p q : Nat) (e e' : Int) (xs : List VT) (ks : List (List UInt8))
  (hI : ToldM Tryz.prog 170 [.ref 1000000 1 0 0, nd.av, .c (.v (.int .i64 (dep : Int)))] [dB ns r B p e] [some (dB ns r B q e')] (.tup [.c (.sl 6 (xs.map VT.cells)), .c (.sl 1 (ks.map sPV))])) :
  ToldM Tryz.prog 120 [.ref 1000000 1 0 0, nd.av, .ref 1000001 1 0 0, .c (.v (.int .i64 (dep : Int)))] [dB ns r B p e, v0B nd.kind] [some (dB ns r B q e'), some (vvB (.mk nd.kind 0 0 [] xs ks))] (.tup []) := by
 have e9 : (nd.kind == 9) = false := by simp; omega
 have e13 : (nd.kind == 13) = false := by simp; omega
 rw [NT.av_eq] at hI ⊢
 unfold dB v0B vvB at *
 rw [vcells_mk]
 refine VC.toldX ent_120 [] Tryz.func120 rfl Tryz.ntmps120 fun hb hbL => ?_
 clear hb hbL
 refine VC.late ?_
 refine walkBF (And.intro @ncells_mk (And.intro e9 e13)) ?_
 refine walkLF (@ncells_mk) [1000000] (hI) ?_
 refine walkB ?_
 refine .frz [] [] [(1000001, ⟨false, 43, 6, [(VT.mk nd.kind 0 0 [] xs ks).cells.map .c]⟩), (1000000, ⟨false, 106, 5, [[.c (.sl 10 (ns.map NT.cells)), .c (.v (.int .i64 r)), .c (.sl 1 (bytePV B)), .c (.v (.int .i64 (q : Int))), .c (.v (.int .i64 e'))]]⟩)] 3000 ?_ ?_
 · simp only [rA_sc, rA_len, WeakF, used_is, sc_any, sc_c, sc_pp, sc_ref, sc_row, sc_agg, sc_fn, ScL, some_imp, List.forall_mem_map, go_sem, Int.reduceBEq, Int.reduceLE, Int.reduceLT, Int.reduceNeg, Nat.reduceAdd, Nat.reduceEqDiff, Nat.reduceLT, Nat.reduceLeDiff, Nat.reduceMul, Nat.reduceSub, reduceCtorEq, ↓reduceIte]
   rw [vcells_mk]
   exact ⟨.one (.cons (.same _) (.cons (.same _) (.cons (.same _) (.cons (.nil 1) (.cons (.same _) (.cons (.same _) .nil)))))) (by simp [AV.cellish]), .same _⟩
 exact retZF (@vcells_mk) Tryz.results120

theorem got_map {α β : Type} {f : Rd α} (hf : Fair f) (g : α → β) {B : List UInt8} {p : Nat} {e : Int} {x : α} {q : Nat} {e' : Int} (h : Got (f B p) B e x q e') : Got (rbind f (fun x => rret (g x)) B p) B e (g x) q e' := by
 by_cases h0 : e = 0
 · subst h0
   have hi := h.is hf
   refine got_of h.le (fun h1 => ?_) fun h1 => ?_
   · rw [rbind_ok (hi.1 h1)]; rfl
   · rw [rbind_bad (hi.2 h1)]
 · exact ⟨h.le, fun _ => h.no h0, fun x h1 => absurd h1 h0, fun w q' h1 => absurd h1 h0⟩
def ValE (ns : List NT) (r : Int) (B : List UInt8) (a : Int) (dep : Nat) (f : Rd VT) (p : Nat) (e : Int) : Prop := ∃ (v : VT) (q : Nat) (e' : Int), Got (f B p) B e v q e' ∧
 ToldM Tryz.prog 62 [.ref 1000000 1 0 0, .c (.v (.int .i64 a)), .c (.v (.int .i64 (dep : Int)))] [dB ns r B p e] [some (dB ns r B q e')] v.av
theorem dval2_told (ns : List NT) (r : Int) (B : List UInt8) (hB : B.length ≤ 1000000) (a : Nat) (nd : NT) (hnd : ns[a]? = some nd) (hk : nd.kind = 2) (dep : Nat) (p : Nat) (hp : p ≤ B.length) (e : Int) : ValE ns r B (a : Int) dep (rleaf nd) p e := by
 have hnp : (ns.map NT.cells)[a]? = some nd.cells := by rw [List.getElem?_map, hnd]; rfl
 have ha : a < ns.length := (List.getElem?_eq_some_iff.1 hnd).1
 have e2 : (nd.kind == 2) = true := by rw [hk]; rfl
 have hR : rleaf nd = rbind rbool fun x => rret (.mk nd.kind x 0 [] [] []) := by unfold rleaf; rw [if_pos hk]
 have hG := got_map fair_bool (fun x => VT.mk nd.kind x 0 [] [] []) (got_lft fair_bool 0 hp e)
 have hT := dnumber_told ns r B p _ e _ _ (wbool_told B hB p hp e)
 rw [← hR] at hG
 generalize lft rbool 0 B p e = L at hG hT
 refine ⟨_, _, _, hG, ?_⟩
 clear hG hR
 rw [VT.av_eq, vcells_mk]
 unfold dB at *
 refine VC.toldX ent_62 [] Tryz.func62 rfl Tryz.ntmps62 fun hb hbL => ?_
 clear hb hbL
 refine walkBF (And.intro hnp (And.intro @ncells_mk (And.intro @len_ncells e2))) ?_
 refine walkLF (@ncells_mk) [1000000] (hT) ?_
 refine walkBF (@ncells_mk) ?_
 refine retX Tryz.results62 ?_
 exact Frz.aggL (.cons (.c _) (.cons (.c _) (.cons (.c _) (.cons (.nil 1) (.cons (.nil 6) (.cons (.nil 1) .nil))))))
theorem dval3_told (ns : List NT) (r : Int) (B : List UInt8) (hB : B.length ≤ 1000000) (a : Nat) (nd : NT) (hnd : ns[a]? = some nd) (hk : nd.kind = 3) (dep : Nat) (p : Nat) (hp : p ≤ B.length) (e : Int) : ValE ns r B (a : Int) dep (rleaf nd) p e := by
 have hnp : (ns.map NT.cells)[a]? = some nd.cells := by rw [List.getElem?_map, hnd]; rfl
 have ha : a < ns.length := (List.getElem?_eq_some_iff.1 hnd).1
 have e2 : (nd.kind == 2) = false := by rw [hk]; rfl
 have e3 : (nd.kind == 3) = true := by rw [hk]; rfl
 have hR : rleaf nd = rbind rint fun x => rret (.mk nd.kind x 0 [] [] []) := by unfold rleaf; rw [if_neg (by rw [hk]; decide), if_pos hk]
 have hG := got_map fair_int (fun x => VT.mk nd.kind x 0 [] [] []) (got_lft fair_int 0 hp e)
 have hT := dnumber_told ns r B p _ e _ _ (wint_told B hB p hp e)
 rw [← hR] at hG
 generalize lft rint 0 B p e = L at hG hT
 refine ⟨_, _, _, hG, ?_⟩
 clear hG hR
 rw [VT.av_eq, vcells_mk]
 unfold dB at *
 refine VC.toldX ent_62 [] Tryz.func62 rfl Tryz.ntmps62 fun hb hbL => ?_
 clear hb hbL
 refine walkBF (And.intro hnp (And.intro @ncells_mk (And.intro @len_ncells (And.intro e2 e3)))) ?_
 refine walkLF (@ncells_mk) [1000000] (hT) ?_
 refine walkBF (@ncells_mk) ?_
 refine retX Tryz.results62 ?_
 exact Frz.aggL (.cons (.c _) (.cons (.c _) (.cons (.c _) (.cons (.nil 1) (.cons (.nil 6) (.cons (.nil 1) .nil))))))
theorem dval4_told (ns : List NT) (r : Int) (B : List UInt8) (hB : B.length ≤ 1000000) (a : Nat) (nd : NT) (hnd : ns[a]? = some nd) (hk : nd.kind = 4) (dep : Nat) (p : Nat) (hp : p ≤ B.length) (e : Int) : ValE ns r B (a : Int) dep (rleaf nd) p e := by
 have hnp : (ns.map NT.cells)[a]? = some nd.cells := by rw [List.getElem?_map, hnd]; rfl
 have ha : a < ns.length := (List.getElem?_eq_some_iff.1 hnd).1
 have e2 : (nd.kind == 2) = false := by rw [hk]; rfl
 have e3 : (nd.kind == 3) = false := by rw [hk]; rfl
 have e4 : (nd.kind == 4) = true := by rw [hk]; rfl
 have hR : rleaf nd = rbind rlong fun x => rret (.mk nd.kind x 0 [] [] []) := by unfold rleaf; rw [if_neg (by rw [hk]; decide), if_neg (by rw [hk]; decide), if_pos hk]
 have hG := got_map fair_long (fun x => VT.mk nd.kind x 0 [] [] []) (got_lft fair_long 0 hp e)
 have hT := dnumber_told ns r B p _ e _ _ (wlong_told B hB p hp e)
 rw [← hR] at hG
 generalize lft rlong 0 B p e = L at hG hT
 refine ⟨_, _, _, hG, ?_⟩
 clear hG hR
 rw [VT.av_eq, vcells_mk]
 unfold dB at *
 refine VC.toldX ent_62 [] Tryz.func62 rfl Tryz.ntmps62 fun hb hbL => ?_
 clear hb hbL
 refine walkBF (And.intro hnp (And.intro @ncells_mk (And.intro @len_ncells (And.intro e2 (And.intro e3 e4))))) ?_
 refine walkLF (@ncells_mk) [1000000] (hT) ?_
 refine walkBF (@ncells_mk) ?_
 refine retX Tryz.results62 ?_
 exact Frz.aggL (.cons (.c _) (.cons (.c _) (.cons (.c _) (.cons (.nil 1) (.cons (.nil 6) (.cons (.nil 1) .nil))))))
theorem dval5_told (ns : List NT) (r : Int) (B : List UInt8) (hB : B.length ≤ 1000000) (a : Nat) (nd : NT) (hnd : ns[a]? = some nd) (hk : nd.kind = 5) (dep : Nat) (p : Nat) (hp : p ≤ B.length) (e : Int) : ValE ns r B (a : Int) dep (rleaf nd) p e := by
 have hnp : (ns.map NT.cells)[a]? = some nd.cells := by rw [List.getElem?_map, hnd]; rfl
 have ha : a < ns.length := (List.getElem?_eq_some_iff.1 hnd).1
 have e2 : (nd.kind == 2) = false := by rw [hk]; rfl
 have e3 : (nd.kind == 3) = false := by rw [hk]; rfl
 have e4 : (nd.kind == 4) = false := by rw [hk]; rfl
 have e5 : (nd.kind == 5) = true := by rw [hk]; rfl
 have hR : rleaf nd = rbind (rbits 4) fun x => rret (.mk nd.kind 0 x [] [] []) := by unfold rleaf; rw [if_neg (by rw [hk]; decide), if_neg (by rw [hk]; decide), if_neg (by rw [hk]; decide), if_pos hk]
 have hG := got_map (fair_bits 4) (fun x => VT.mk nd.kind 0 x [] [] []) (got_lft (fair_bits 4) 0 hp e)
 have hT := wbits_told B hB p hp e 4 (by decide)
 rw [← hR] at hG
 generalize lft (rbits 4) 0 B p e = L at hG hT
 refine ⟨_, _, _, hG, ?_⟩
 clear hG hR
 rw [VT.av_eq, vcells_mk]
 unfold dB at *
 unfold rC at hT
 rw [show ((4 : Nat) : Int) = 4 from rfl] at hT
 refine VC.toldX ent_62 [] Tryz.func62 rfl Tryz.ntmps62 fun hb hbL => ?_
 clear hb hbL
 refine walkBF (And.intro hnp (And.intro @ncells_mk (And.intro @len_ncells (And.intro e2 (And.intro e3 (And.intro e4 e5)))))) ?_
 refine walkC (hT) ?_
 refine walkBF (@ncells_mk) ?_
 refine retX Tryz.results62 ?_
 exact Frz.aggL (.cons (.c _) (.cons (.c _) (.cons (.c _) (.cons (.nil 1) (.cons (.nil 6) (.cons (.nil 1) .nil))))))
theorem dval6_told (ns : List NT) (r : Int) (B : List UInt8) (hB : B.length ≤ 1000000) (a : Nat) (nd : NT) (hnd : ns[a]? = some nd) (hk : nd.kind = 6) (dep : Nat) (p : Nat) (hp : p ≤ B.length) (e : Int) : ValE ns r B (a : Int) dep (rleaf nd) p e := by
 have hnp : (ns.map NT.cells)[a]? = some nd.cells := by rw [List.getElem?_map, hnd]; rfl
 have ha : a < ns.length := (List.getElem?_eq_some_iff.1 hnd).1
 have e2 : (nd.kind == 2) = false := by rw [hk]; rfl
 have e3 : (nd.kind == 3) = false := by rw [hk]; rfl
 have e4 : (nd.kind == 4) = false := by rw [hk]; rfl
 have e5 : (nd.kind == 5) = false := by rw [hk]; rfl
 have e6 : (nd.kind == 6) = true := by rw [hk]; rfl
 have hR : rleaf nd = rbind (rbits 8) fun x => rret (.mk nd.kind 0 x [] [] []) := by unfold rleaf; rw [if_neg (by rw [hk]; decide), if_neg (by rw [hk]; decide), if_neg (by rw [hk]; decide), if_neg (by rw [hk]; decide), if_pos hk]
 have hG := got_map (fair_bits 8) (fun x => VT.mk nd.kind 0 x [] [] []) (got_lft (fair_bits 8) 0 hp e)
 have hT := wbits_told B hB p hp e 8 (by decide)
 rw [← hR] at hG
 generalize lft (rbits 8) 0 B p e = L at hG hT
 refine ⟨_, _, _, hG, ?_⟩
 clear hG hR
 rw [VT.av_eq, vcells_mk]
 unfold dB at *
 unfold rC at hT
 rw [show ((8 : Nat) : Int) = 8 from rfl] at hT
 refine VC.toldX ent_62 [] Tryz.func62 rfl Tryz.ntmps62 fun hb hbL => ?_
 clear hb hbL
 refine walkBF (And.intro hnp (And.intro @ncells_mk (And.intro @len_ncells (And.intro e2 (And.intro e3 (And.intro e4 (And.intro e5 e6))))))) ?_
 refine walkC (hT) ?_
 refine walkBF (@ncells_mk) ?_
 refine retX Tryz.results62 ?_
 exact Frz.aggL (.cons (.c _) (.cons (.c _) (.cons (.c _) (.cons (.nil 1) (.cons (.nil 6) (.cons (.nil 1) .nil))))))
theorem dval7_told (ns : List NT) (r : Int) (B : List UInt8) (hB : B.length ≤ 1000000) (a : Nat) (nd : NT) (hnd : ns[a]? = some nd) (hk : nd.kind = 7) (dep : Nat) (p : Nat) (hp : p ≤ B.length) (e : Int) : ValE ns r B (a : Int) dep (rleaf nd) p e := by
 have hnp : (ns.map NT.cells)[a]? = some nd.cells := by rw [List.getElem?_map, hnd]; rfl
 have ha : a < ns.length := (List.getElem?_eq_some_iff.1 hnd).1
 have e2 : (nd.kind == 2) = false := by rw [hk]; rfl
 have e3 : (nd.kind == 3) = false := by rw [hk]; rfl
 have e4 : (nd.kind == 4) = false := by rw [hk]; rfl
 have e5 : (nd.kind == 5) = false := by rw [hk]; rfl
 have e6 : (nd.kind == 6) = false := by rw [hk]; rfl
 have e7 : (nd.kind == 7) = true := by rw [hk]; rfl
 have hR : rleaf nd = rbind rbytes fun x => rret (.mk nd.kind 0 0 x [] []) := by unfold rleaf; rw [if_neg (by rw [hk]; decide), if_neg (by rw [hk]; decide), if_neg (by rw [hk]; decide), if_neg (by rw [hk]; decide), if_neg (by rw [hk]; decide), if_pos hk]
 have hG := got_map fair_bytes (fun x => VT.mk nd.kind 0 0 x [] []) (got_lft fair_bytes [] hp e)
 have hT := dtext_told ns r B p _ e _ _ (wbytes_told B hB p hp e)
 rw [← hR] at hG
 generalize lft rbytes [] B p e = L at hG hT
 refine ⟨_, _, _, hG, ?_⟩
 clear hG hR
 rw [VT.av_eq, vcells_mk]
 unfold dB at *
 refine VC.toldX ent_62 [] Tryz.func62 rfl Tryz.ntmps62 fun hb hbL => ?_
 clear hb hbL
 refine walkBF (And.intro hnp (And.intro @ncells_mk (And.intro @len_ncells (And.intro e2 (And.intro e3 (And.intro e4 (And.intro e5 (And.intro e6 e7)))))))) ?_
 refine walkLF (@ncells_mk) [1000000] (hT) ?_
 refine walkBF (@ncells_mk) ?_
 refine retX Tryz.results62 ?_
 exact Frz.aggL (.cons (.c _) (.cons (.c _) (.cons (.c _) (.cons (.c _) (.cons (.nil 6) (.cons (.nil 1) .nil))))))
theorem dval8_told (ns : List NT) (r : Int) (B : List UInt8) (hB : B.length ≤ 1000000) (a : Nat) (nd : NT) (hnd : ns[a]? = some nd) (hk : nd.kind = 8) (dep : Nat) (p : Nat) (hp : p ≤ B.length) (e : Int) : ValE ns r B (a : Int) dep (rleaf nd) p e := by
 have hnp : (ns.map NT.cells)[a]? = some nd.cells := by rw [List.getElem?_map, hnd]; rfl
 have ha : a < ns.length := (List.getElem?_eq_some_iff.1 hnd).1
 have e2 : (nd.kind == 2) = false := by rw [hk]; rfl
 have e3 : (nd.kind == 3) = false := by rw [hk]; rfl
 have e4 : (nd.kind == 4) = false := by rw [hk]; rfl
 have e5 : (nd.kind == 5) = false := by rw [hk]; rfl
 have e6 : (nd.kind == 6) = false := by rw [hk]; rfl
 have e7 : (nd.kind == 7) = false := by rw [hk]; rfl
 have e8 : (nd.kind == 8) = true := by rw [hk]; rfl
 have hR : rleaf nd = rbind rtext fun x => rret (.mk nd.kind 0 0 x [] []) := by unfold rleaf; rw [if_neg (by rw [hk]; decide), if_neg (by rw [hk]; decide), if_neg (by rw [hk]; decide), if_neg (by rw [hk]; decide), if_neg (by rw [hk]; decide), if_neg (by rw [hk]; decide), if_pos hk]
 have hG := got_map fair_text (fun x => VT.mk nd.kind 0 0 x [] []) (got_lft fair_text [] hp e)
 have hT := dtext_told ns r B p _ e _ _ (wtext_told B hB p hp e)
 rw [← hR] at hG
 generalize lft rtext [] B p e = L at hG hT
 refine ⟨_, _, _, hG, ?_⟩
 clear hG hR
 rw [VT.av_eq, vcells_mk]
 unfold dB at *
 refine VC.toldX ent_62 [] Tryz.func62 rfl Tryz.ntmps62 fun hb hbL => ?_
 clear hb hbL
 refine walkBF (And.intro hnp (And.intro @ncells_mk (And.intro @len_ncells (And.intro e2 (And.intro e3 (And.intro e4 (And.intro e5 (And.intro e6 (And.intro e7 e8))))))))) ?_
 refine walkLF (@ncells_mk) [1000000] (hT) ?_
 refine walkBF (@ncells_mk) ?_
 refine retX Tryz.results62 ?_
 exact Frz.aggL (.cons (.c _) (.cons (.c _) (.cons (.c _) (.cons (.c _) (.cons (.nil 6) (.cons (.nil 1) .nil))))))
theorem dval14_told (ns : List NT) (r : Int) (B : List UInt8) (hB : B.length ≤ 1000000) (a : Nat) (nd : NT) (hnd : ns[a]? = some nd) (hk : nd.kind = 14) (hsz : 0 ≤ nd.size ∧ nd.size ≤ 1000000) (dep : Nat) (p : Nat) (hp : p ≤ B.length) (e : Int) : ValE ns r B (a : Int) dep (rleaf nd) p e := by
 have hnp : (ns.map NT.cells)[a]? = some nd.cells := by rw [List.getElem?_map, hnd]; rfl
 have ha : a < ns.length := (List.getElem?_eq_some_iff.1 hnd).1
 have e2 : (nd.kind == 2) = false := by rw [hk]; rfl
 have e3 : (nd.kind == 3) = false := by rw [hk]; rfl
 have e4 : (nd.kind == 4) = false := by rw [hk]; rfl
 have e5 : (nd.kind == 5) = false := by rw [hk]; rfl
 have e6 : (nd.kind == 6) = false := by rw [hk]; rfl
 have e7 : (nd.kind == 7) = false := by rw [hk]; rfl
 have e8 : (nd.kind == 8) = false := by rw [hk]; rfl
 have e14 : (nd.kind == 14) = true := by rw [hk]; rfl
 have hR : rleaf nd = rbind (rnext nd.size.toNat) fun x => rret (.mk nd.kind 0 0 x [] []) := by unfold rleaf; rw [if_neg (by rw [hk]; decide), if_neg (by rw [hk]; decide), if_neg (by rw [hk]; decide), if_neg (by rw [hk]; decide), if_neg (by rw [hk]; decide), if_neg (by rw [hk]; decide), if_neg (by rw [hk]; decide), if_pos hk]
 have hG := got_map (fair_next nd.size.toNat) (fun x => VT.mk nd.kind 0 0 x [] []) (got_lft (fair_next nd.size.toNat) [] hp e)
 have hT := wfixed_told B hB p hp e nd.size (by omega) (by omega)
 rw [← hR] at hG
 generalize lft (rnext nd.size.toNat) [] B p e = L at hG hT
 refine ⟨_, _, _, hG, ?_⟩
 clear hG hR
 rw [VT.av_eq, vcells_mk]
 unfold dB at *
 unfold rC at hT
 refine VC.toldX ent_62 [] Tryz.func62 rfl Tryz.ntmps62 fun hb hbL => ?_
 clear hb hbL
 refine walkBF (And.intro hnp (And.intro @ncells_mk (And.intro @len_ncells (And.intro e2 (And.intro e3 (And.intro e4 (And.intro e5 (And.intro e6 (And.intro e7 (And.intro e8 e14)))))))))) ?_
 refine walkC (hT) ?_
 refine walkBF (@ncells_mk) ?_
 refine retX Tryz.results62 ?_
 exact Frz.aggL (.cons (.c _) (.cons (.c _) (.cons (.c _) (.cons (.c _) (.cons (.nil 6) (.cons (.nil 1) .nil))))))
theorem dval10_told (ns : List NT) (r : Int) (B : List UInt8) (hB : B.length ≤ 1000000) (a : Nat) (nd : NT) (hnd : ns[a]? = some nd) (hk : nd.kind = 10) (dep : Nat) (p : Nat) (hp : p ≤ B.length) (e : Int) : ValE ns r B (a : Int) dep (rleaf nd) p e := by
 have hnp : (ns.map NT.cells)[a]? = some nd.cells := by rw [List.getElem?_map, hnd]; rfl
 have ha : a < ns.length := (List.getElem?_eq_some_iff.1 hnd).1
 have e2 : (nd.kind == 2) = false := by rw [hk]; rfl
 have e3 : (nd.kind == 3) = false := by rw [hk]; rfl
 have e4 : (nd.kind == 4) = false := by rw [hk]; rfl
 have e5 : (nd.kind == 5) = false := by rw [hk]; rfl
 have e6 : (nd.kind == 6) = false := by rw [hk]; rfl
 have e7 : (nd.kind == 7) = false := by rw [hk]; rfl
 have e8 : (nd.kind == 8) = false := by rw [hk]; rfl
 have e14 : (nd.kind == 14) = false := by rw [hk]; rfl
 have e10 : (nd.kind == 10) = true := by rw [hk]; rfl
 have hR : rleaf nd = rbind (rplace rint nd.symbols.length) fun x => rret (.mk nd.kind x 0 [] [] []) := by unfold rleaf; rw [if_neg (by rw [hk]; decide), if_neg (by rw [hk]; decide), if_neg (by rw [hk]; decide), if_neg (by rw [hk]; decide), if_neg (by rw [hk]; decide), if_neg (by rw [hk]; decide), if_neg (by rw [hk]; decide), if_neg (by rw [hk]; decide), if_pos hk]
 have hG := got_map (fair_place fair_int _) (fun x => VT.mk nd.kind x 0 [] [] []) (plcS_got fair_int nd.symbols.length hp e)
 have hT := dplace_told rint ns r B p e nd.symbols.length (wint_told B hB p hp e)
 rw [← hR] at hG
 generalize plcS rint B nd.symbols.length p e = L at hG hT
 refine ⟨_, _, _, hG, ?_⟩
 clear hG hR
 rw [VT.av_eq, vcells_mk]
 unfold dB at *
 refine VC.toldX ent_62 [] Tryz.func62 rfl Tryz.ntmps62 fun hb hbL => ?_
 clear hb hbL
 refine walkBF (And.intro hnp (And.intro @ncells_mk (And.intro @len_ncells (And.intro e2 (And.intro e3 (And.intro e4 (And.intro e5 (And.intro e6 (And.intro e7 (And.intro e8 (And.intro e14 e10))))))))))) ?_
 refine walkLF (@ncells_mk) [1000000] (hT) ?_
 refine walkBF (@ncells_mk) ?_
 refine retX Tryz.results62 ?_
 exact Frz.aggL (.cons (.c _) (.cons (.c _) (.cons (.c _) (.cons (.nil 1) (.cons (.nil 6) (.cons (.nil 1) .nil))))))
theorem dval1_told (ns : List NT) (r : Int) (B : List UInt8) (a : Nat) (nd : NT) (hnd : ns[a]? = some nd) (hk : nd.kind = 1) (dep : Nat) (p : Nat) (hp : p ≤ B.length) (e : Int) : ValE ns r B (a : Int) dep (rleaf nd) p e := by
 have hnp : (ns.map NT.cells)[a]? = some nd.cells := by rw [List.getElem?_map, hnd]; rfl
 have ha : a < ns.length := (List.getElem?_eq_some_iff.1 hnd).1
 have e2 : (nd.kind == 2) = false := by rw [hk]; rfl
 have e3 : (nd.kind == 3) = false := by rw [hk]; rfl
 have e4 : (nd.kind == 4) = false := by rw [hk]; rfl
 have e5 : (nd.kind == 5) = false := by rw [hk]; rfl
 have e6 : (nd.kind == 6) = false := by rw [hk]; rfl
 have e7 : (nd.kind == 7) = false := by rw [hk]; rfl
 have e8 : (nd.kind == 8) = false := by rw [hk]; rfl
 have e14 : (nd.kind == 14) = false := by rw [hk]; rfl
 have e10 : (nd.kind == 10) = false := by rw [hk]; rfl
 have e9 : (nd.kind == 9) = false := by rw [hk]; rfl
 have e11 : (nd.kind == 11) = false := by rw [hk]; rfl
 have e12 : (nd.kind == 12) = false := by rw [hk]; rfl
 have e13 : (nd.kind == 13) = false := by rw [hk]; rfl
 have hR : rleaf nd = rret (.mk nd.kind 0 0 [] [] []) := by unfold rleaf; rw [if_neg (by rw [hk]; decide), if_neg (by rw [hk]; decide), if_neg (by rw [hk]; decide), if_neg (by rw [hk]; decide), if_neg (by rw [hk]; decide), if_neg (by rw [hk]; decide), if_neg (by rw [hk]; decide), if_neg (by rw [hk]; decide), if_neg (by rw [hk]; decide)]
 have hG : Got (rleaf nd B p) B e (VT.mk nd.kind 0 0 [] [] []) p e := by
  rw [hR]
  refine ⟨hp, fun _ => rfl, fun x _ hx => ?_, fun w q' h0 hx => ?_⟩
  · unfold rret at hx; simp at hx
  · unfold rret at hx
    injection hx with hx
    injection hx with hx hx'
    exact ⟨hx, hx', h0⟩
 refine ⟨_, _, _, hG, ?_⟩
 clear hG hR
 rw [VT.av_eq, vcells_mk]
 unfold dB at *
 refine VC.toldX ent_62 [] Tryz.func62 rfl Tryz.ntmps62 fun hb hbL => ?_
 clear hb hbL
 refine walkBF (And.intro hnp (And.intro @ncells_mk (And.intro @len_ncells (And.intro e2 (And.intro e3 (And.intro e4 (And.intro e5 (And.intro e6 (And.intro e7 (And.intro e8 (And.intro e14 (And.intro e10 (And.intro e9 (And.intro e11 (And.intro e12 e13))))))))))))))) ?_
 refine retX Tryz.results62 ?_
 exact Frz.aggL (.cons (.c _) (.cons (.c _) (.cons (.c _) (.cons (.nil 1) (.cons (.nil 6) (.cons (.nil 1) .nil))))))
theorem dvalc0_told (ns : List NT) (r : Int) (B : List UInt8) (a : Nat) (nd : NT) (hnd : ns[a]? = some nd) (hk : nd.kind = 9 ∨ nd.kind = 11 ∨ nd.kind = 12 ∨ nd.kind = 13) (p : Nat) (hp : p ≤ B.length) (e : Int) : ValE ns r B (a : Int) 20 (rbad 15) p e := by
 have hnp : (ns.map NT.cells)[a]? = some nd.cells := by rw [List.getElem?_map, hnd]; rfl
 have ha : a < ns.length := (List.getElem?_eq_some_iff.1 hnd).1
 have e2 : (nd.kind == 2) = false := by rcases hk with h | h | h | h <;> rw [h] <;> rfl
 have e3 : (nd.kind == 3) = false := by rcases hk with h | h | h | h <;> rw [h] <;> rfl
 have e4 : (nd.kind == 4) = false := by rcases hk with h | h | h | h <;> rw [h] <;> rfl
 have e5 : (nd.kind == 5) = false := by rcases hk with h | h | h | h <;> rw [h] <;> rfl
 have e6 : (nd.kind == 6) = false := by rcases hk with h | h | h | h <;> rw [h] <;> rfl
 have e7 : (nd.kind == 7) = false := by rcases hk with h | h | h | h <;> rw [h] <;> rfl
 have e8 : (nd.kind == 8) = false := by rcases hk with h | h | h | h <;> rw [h] <;> rfl
 have e14 : (nd.kind == 14) = false := by rcases hk with h | h | h | h <;> rw [h] <;> rfl
 have e10 : (nd.kind == 10) = false := by rcases hk with h | h | h | h <;> rw [h] <;> rfl
 have hT := dfail_told ns r B p e 15
 have hG : Got ((rbad 15 : Rd VT) B p) B e (VT.mk nd.kind 0 0 [] [] []) p (if e = 0 then 15 else e) := by
  refine ⟨hp, fun h => if_neg h, fun x h hx => ?_, fun w q' h0 hx => ?_⟩
  · unfold rbad at hx
    injection hx with hx
    rw [if_pos h, hx]
  · unfold rbad at hx; simp at hx
 generalize (if e = 0 then (15 : Int) else e) = E at hT hG
 refine ⟨_, _, _, hG, ?_⟩
 clear hG
 have e20 : ((20 : Int) == 20) = true := rfl
 rw [VT.av_eq, vcells_mk]
 unfold dB at *
 have hcase : ∀ (b9 b11 b12 b13 : Bool), (nd.kind == 9) = b9 → (nd.kind == 11) = b11 → (nd.kind == 12) = b12 → (nd.kind == 13) = b13 → (b9 = true ∨ (b9 = false ∧ b11 = true) ∨ (b9 = false ∧ b11 = false ∧ b12 = true) ∨ (b9 = false ∧ b11 = false ∧ b12 = false ∧ b13 = true)) → ToldM Tryz.prog 62 [.ref 1000000 1 0 0, .c (.v (.int .i64 (a : Int))), .c (.v (.int .i64 ((20 : Nat) : Int)))] [⟨false, 106, 5, [[.c (.sl 10 (ns.map NT.cells)), .c (.v (.int .i64 r)), .c (.sl 1 (bytePV B)), .c (.v (.int .i64 (p : Int))), .c (.v (.int .i64 e))]]⟩] [some ⟨false, 106, 5, [[.c (.sl 10 (ns.map NT.cells)), .c (.v (.int .i64 r)), .c (.sl 1 (bytePV B)), .c (.v (.int .i64 (p : Int))), .c (.v (.int .i64 E))]]⟩]
   (.agg ([PV.v (.int .i64 nd.kind), .v (.int .i64 0), .v (.int .u64 0), .sl 1 (bytePV []), .sl 6 (([] : List VT).map VT.cells), .sl 1 (([] : List (List UInt8)).map sPV)].map .c)) := by
  intro b9 b11 b12 b13 g9 g11 g12 g13 hb
  rw [show ((20 : Nat) : Int) = 20 from rfl]
  rcases hb with rfl | ⟨rfl, rfl⟩ | ⟨rfl, rfl, rfl⟩ | ⟨rfl, rfl, rfl, rfl⟩
  · refine VC.toldX ent_62 [] Tryz.func62 rfl Tryz.ntmps62 fun hb hbL => ?_
    clear hb hbL
    refine walkBF (And.intro hnp (And.intro @ncells_mk (And.intro @len_ncells (And.intro e2 (And.intro e3 (And.intro e4 (And.intro e5 (And.intro e6 (And.intro e7 (And.intro e8 (And.intro e14 (And.intro e10 (And.intro g9 e20))))))))))))) ?_
    refine walkLF (@ncells_mk) [1000000] (hT) ?_
    refine walkBF (@ncells_mk) ?_
    refine retX Tryz.results62 ?_
    exact Frz.aggL (.cons (.c _) (.cons (.c _) (.cons (.c _) (.cons (.nil 1) (.cons (.nil 6) (.cons (.nil 1) .nil))))))
  · refine VC.toldX ent_62 [] Tryz.func62 rfl Tryz.ntmps62 fun hb hbL => ?_
    clear hb hbL
    refine walkBF (And.intro hnp (And.intro @ncells_mk (And.intro @len_ncells (And.intro e2 (And.intro e3 (And.intro e4 (And.intro e5 (And.intro e6 (And.intro e7 (And.intro e8 (And.intro e14 (And.intro e10 (And.intro g9 (And.intro g11 e20)))))))))))))) ?_
    refine walkLF (@ncells_mk) [1000000] (hT) ?_
    refine walkBF (@ncells_mk) ?_
    refine retX Tryz.results62 ?_
    exact Frz.aggL (.cons (.c _) (.cons (.c _) (.cons (.c _) (.cons (.nil 1) (.cons (.nil 6) (.cons (.nil 1) .nil))))))
  · refine VC.toldX ent_62 [] Tryz.func62 rfl Tryz.ntmps62 fun hb hbL => ?_
    clear hb hbL
    refine walkBF (And.intro hnp (And.intro @ncells_mk (And.intro @len_ncells (And.intro e2 (And.intro e3 (And.intro e4 (And.intro e5 (And.intro e6 (And.intro e7 (And.intro e8 (And.intro e14 (And.intro e10 (And.intro g9 (And.intro g11 (And.intro g12 e20))))))))))))))) ?_
    refine walkLF (@ncells_mk) [1000000] (hT) ?_
    refine walkBF (@ncells_mk) ?_
    refine retX Tryz.results62 ?_
    exact Frz.aggL (.cons (.c _) (.cons (.c _) (.cons (.c _) (.cons (.nil 1) (.cons (.nil 6) (.cons (.nil 1) .nil))))))
  · refine VC.toldX ent_62 [] Tryz.func62 rfl Tryz.ntmps62 fun hb hbL => ?_
    clear hb hbL
    refine walkBF (And.intro hnp (And.intro @ncells_mk (And.intro @len_ncells (And.intro e2 (And.intro e3 (And.intro e4 (And.intro e5 (And.intro e6 (And.intro e7 (And.intro e8 (And.intro e14 (And.intro e10 (And.intro g9 (And.intro g11 (And.intro g12 (And.intro g13 e20)))))))))))))))) ?_
    refine walkLF (@ncells_mk) [1000000] (hT) ?_
    refine walkBF (@ncells_mk) ?_
    refine retX Tryz.results62 ?_
    exact Frz.aggL (.cons (.c _) (.cons (.c _) (.cons (.c _) (.cons (.nil 1) (.cons (.nil 6) (.cons (.nil 1) .nil))))))
 refine hcase _ _ _ _ rfl rfl rfl rfl ?_
 rcases hk with h | h | h | h <;> rw [h] <;> simp
theorem dvalc_told (ns : List NT) (r : Int) (B : List UInt8) (a : Nat) (nd : NT) (hnd : ns[a]? = some nd) (hk : nd.kind = 9 ∨ nd.kind = 11 ∨ nd.kind = 12 ∨ nd.kind = 13) (dep : Nat) (hd : dep < 20) (p q : Nat) (e e' : Int) (v : VT)
  (hT : ToldM Tryz.prog 120 [.ref 1000000 1 0 0, nd.av, .ref 1000001 1 0 0, .c (.v (.int .i64 ((dep + 1 : Nat) : Int)))] [dB ns r B p e, v0B nd.kind] [some (dB ns r B q e'), some (vvB v)] (.tup [])) :
  ToldM Tryz.prog 62 [.ref 1000000 1 0 0, .c (.v (.int .i64 (a : Int))), .c (.v (.int .i64 (dep : Int)))] [dB ns r B p e] [some (dB ns r B q e')] v.av := by
 have hnp : (ns.map NT.cells)[a]? = some nd.cells := by rw [List.getElem?_map, hnd]; rfl
 have ha : a < ns.length := (List.getElem?_eq_some_iff.1 hnd).1
 have e2 : (nd.kind == 2) = false := by rcases hk with h | h | h | h <;> rw [h] <;> rfl
 have e3 : (nd.kind == 3) = false := by rcases hk with h | h | h | h <;> rw [h] <;> rfl
 have e4 : (nd.kind == 4) = false := by rcases hk with h | h | h | h <;> rw [h] <;> rfl
 have e5 : (nd.kind == 5) = false := by rcases hk with h | h | h | h <;> rw [h] <;> rfl
 have e6 : (nd.kind == 6) = false := by rcases hk with h | h | h | h <;> rw [h] <;> rfl
 have e7 : (nd.kind == 7) = false := by rcases hk with h | h | h | h <;> rw [h] <;> rfl
 have e8 : (nd.kind == 8) = false := by rcases hk with h | h | h | h <;> rw [h] <;> rfl
 have e14 : (nd.kind == 14) = false := by rcases hk with h | h | h | h <;> rw [h] <;> rfl
 have e10 : (nd.kind == 10) = false := by rcases hk with h | h | h | h <;> rw [h] <;> rfl
 have e20 : ((dep : Int) == 20) = false := by simp; omega
 have hw : IntKind.i64.wrap ((dep : Int) + 1) = ((dep + 1 : Nat) : Int) := by rw [wrap64_id (by omega) (by omega)]; omega
 rw [NT.av_eq] at hT
 rw [VT.av_eq]
 unfold dB v0B vvB at *
 have hvl := len_vcells v
 have hvt := take_vcellsC v
 generalize v.cells = vc at hT hvl hvt
 have hcase : ∀ (b9 b11 b12 b13 : Bool), (nd.kind == 9) = b9 → (nd.kind == 11) = b11 → (nd.kind == 12) = b12 → (nd.kind == 13) = b13 → (b9 = true ∨ (b9 = false ∧ b11 = true) ∨ (b9 = false ∧ b11 = false ∧ b12 = true) ∨ (b9 = false ∧ b11 = false ∧ b12 = false ∧ b13 = true)) → ToldM Tryz.prog 62 [.ref 1000000 1 0 0, .c (.v (.int .i64 (a : Int))), .c (.v (.int .i64 (dep : Int)))] [⟨false, 106, 5, [[.c (.sl 10 (ns.map NT.cells)), .c (.v (.int .i64 r)), .c (.sl 1 (bytePV B)), .c (.v (.int .i64 (p : Int))), .c (.v (.int .i64 e))]]⟩] [some ⟨false, 106, 5, [[.c (.sl 10 (ns.map NT.cells)), .c (.v (.int .i64 r)), .c (.sl 1 (bytePV B)), .c (.v (.int .i64 (q : Int))), .c (.v (.int .i64 e'))]]⟩] (.agg (vc.map .c)) := by
  intro b9 b11 b12 b13 g9 g11 g12 g13 hb
  rcases hb with rfl | ⟨rfl, rfl⟩ | ⟨rfl, rfl, rfl⟩ | ⟨rfl, rfl, rfl, rfl⟩
  · refine VC.toldX ent_62 [] Tryz.func62 rfl Tryz.ntmps62 fun hb hbL => ?_
    clear hb hbL
    refine walkBF (And.intro hnp (And.intro @ncells_mk (And.intro @len_ncells (And.intro e2 (And.intro e3 (And.intro e4 (And.intro e5 (And.intro e6 (And.intro e7 (And.intro e8 (And.intro e14 (And.intro e10 (And.intro g9 (And.intro e20 hw)))))))))))))) ?_
    refine walkLF (@ncells_mk) [1000000, 112] (hT) ?_
    refine walkBF (And.intro @ncells_mk (And.intro hvl hvt)) ?_
    refine retX Tryz.results62 ?_
    refine ⟨by omega, ?_⟩
    (try rw [hvt])
    exact .cs _ _
  · refine VC.toldX ent_62 [] Tryz.func62 rfl Tryz.ntmps62 fun hb hbL => ?_
    clear hb hbL
    refine walkBF (And.intro hnp (And.intro @ncells_mk (And.intro @len_ncells (And.intro e2 (And.intro e3 (And.intro e4 (And.intro e5 (And.intro e6 (And.intro e7 (And.intro e8 (And.intro e14 (And.intro e10 (And.intro g9 (And.intro g11 (And.intro e20 hw))))))))))))))) ?_
    refine walkLF (@ncells_mk) [1000000, 112] (hT) ?_
    refine walkBF (And.intro @ncells_mk (And.intro hvl hvt)) ?_
    refine retX Tryz.results62 ?_
    refine ⟨by omega, ?_⟩
    (try rw [hvt])
    exact .cs _ _
  · refine VC.toldX ent_62 [] Tryz.func62 rfl Tryz.ntmps62 fun hb hbL => ?_
    clear hb hbL
    refine walkBF (And.intro hnp (And.intro @ncells_mk (And.intro @len_ncells (And.intro e2 (And.intro e3 (And.intro e4 (And.intro e5 (And.intro e6 (And.intro e7 (And.intro e8 (And.intro e14 (And.intro e10 (And.intro g9 (And.intro g11 (And.intro g12 (And.intro e20 hw)))))))))))))))) ?_
    refine walkLF (@ncells_mk) [1000000, 112] (hT) ?_
    refine walkBF (And.intro @ncells_mk (And.intro hvl hvt)) ?_
    refine retX Tryz.results62 ?_
    refine ⟨by omega, ?_⟩
    (try rw [hvt])
    exact .cs _ _
  · refine VC.toldX ent_62 [] Tryz.func62 rfl Tryz.ntmps62 fun hb hbL => ?_
    clear hb hbL
    refine walkBF (And.intro hnp (And.intro @ncells_mk (And.intro @len_ncells (And.intro e2 (And.intro e3 (And.intro e4 (And.intro e5 (And.intro e6 (And.intro e7 (And.intro e8 (And.intro e14 (And.intro e10 (And.intro g9 (And.intro g11 (And.intro g12 (And.intro g13 (And.intro e20 hw))))))))))))))))) ?_
    refine walkLF (@ncells_mk) [1000000, 112] (hT) ?_
    refine walkBF (And.intro @ncells_mk (And.intro hvl hvt)) ?_
    refine retX Tryz.results62 ?_
    refine ⟨by omega, ?_⟩
    (try rw [hvt])
    exact .cs _ _
 refine hcase _ _ _ _ rfl rfl rfl rfl ?_
 rcases hk with h | h | h | h <;> rw [h] <;> simp

def idxP {α : Type} (p : α → Bool) (l : List α) : Int := match l.findIdx? p with | some i => (i : Int) | none => -1
theorem idxP_at {α : Type} {p : α → Bool} {l : List α} {i : Nat} {x : α} (h : l[i]? = some x) (hx : p x = true) (h0 : ∀ j y, j < i → l[j]? = some y → p y = false) : idxP p l = (i : Int) := by
 unfold idxP
 obtain ⟨hlt, he⟩ := List.getElem?_eq_some_iff.1 h
 have : l.findIdx? p = some i := by
  rw [List.findIdx?_eq_some_iff_getElem]
  refine ⟨hlt, by rw [he]; exact hx, fun j hj => ?_⟩
  have := h0 j _ hj (List.getElem?_eq_getElem (by omega))
  simp [this]
 rw [this]
theorem idxP_none {α : Type} {p : α → Bool} {l : List α} (h0 : ∀ j y, j < l.length → l[j]? = some y → p y = false) : idxP p l = -1 := by
 unfold idxP
 have : l.findIdx? p = none := by
  rw [List.findIdx?_eq_none_iff]
  intro x hx
  obtain ⟨j, hj, he⟩ := List.getElem_of_mem hx
  exact h0 j x hj (by rw [List.getElem?_eq_getElem hj, he])
 rw [this]
theorem idxP_any {α : Type} (p : α → Bool) (l : List α) : decide (idxP p l ≥ 0) = l.any p := by
 unfold idxP
 cases h : l.findIdx? p with
 | some i =>
   have := (List.findIdx?_eq_some_iff_getElem.1 h)
   obtain ⟨h1, h2, _⟩ := this
   have h3 : l.any p = true := List.any_eq_true.2 ⟨l[i], List.getElem_mem _, h2⟩
   rw [h3]
   simp
 | none =>
   rw [List.findIdx?_eq_none_iff] at h
   have h3 : l.any p = false := List.any_eq_false.2 fun x hx => by simpa using h x hx
   rw [h3]
   rfl
theorem sc_pureL {used : Nat → Prop} {h : Nat → Option Blkd} {l : List AV} (hp : AV.pureL l = true) : (∀ x ∈ l, Sc used h x) = True := eq_true fun x hx => (pure_ofL l hp x hx).sc
theorem pureL_app (l m : List AV) : AV.pureL (l ++ m) = (AV.pureL l && AV.pureL m) := by
 induction l with
 | nil => simp [AV.pureL]
 | cons x l ih => simp [AV.pureL, ih, Bool.and_assoc]

theorem ixfS_told {g : FuncId} {fs cs : List AV} (hp : AV.pureL fs = true) (hp' : AV.pureL cs = true) (l : List (List UInt8)) (p : List UInt8 → Bool) (hk : ∀ x ∈ l, Told Tryz.prog g (fs ++ ([.c (.v (.string (str x)))] ++ cs)) (.c (.v (.bool (p x))))) :
  Told Tryz.prog 212 [.c (.sl 1 (l.map sPV)), .fn (.func g) fs cs] (.c (.v (.int .i64 (idxP p l)))) := by
 refine VC.told ent_212 Tryz.func212 rfl Tryz.ntmps212 (by simp) (by simp [AV.pureB, AV.pureL, hp, hp']) rfl fun hb => ?_
 simp only [List.mem_cons, List.not_mem_nil, or_false, forall_eq_or_imp, forall_eq, abd_c, pbd_sl, List.length_map] at hb
 have h1 := hb.1.1
 clear hb
 refine walkG ?_
 refine VC.loop (ι := {i : Nat // i ≤ l.length ∧ ∀ j x, j < i → l[j]? = some x → p x = false}) (fun i => [(0, .c (.sl 1 (l.map sPV))), (1, .fn (.func g) fs cs), (7, .c (.v (.int .i64 l.length))), (8, .c (.v (.int .i64 i.1)))]) (fun _ => []) 0 (fun i => l.length - i.1) ⟨0, Nat.zero_le _, by intro j x hj; omega⟩ ?_ ?_
 · simp only [sc_pureL hp, sc_pureL hp', Weak, eq_self, used_is, sc_any, sc_c, sc_pp, sc_ref, sc_row, sc_agg, sc_fn, ScL, some_imp, List.forall_mem_map, go_sem, Int.reduceBEq, Int.reduceLE, Int.reduceLT, Int.reduceNeg, Nat.reduceAdd, Nat.reduceEqDiff, Nat.reduceLT, Nat.reduceLeDiff, Nat.reduceMul, Nat.reduceSub, reduceCtorEq, ↓reduceIte]
   all_goals rfl
 rintro ⟨i, hi, ht⟩
 refine walkG ?_
 refine VC.cond (by rfl) (by trivial) (fun hc => ?_) (fun hc => ?_)
 · simp only [decide_eq_true_eq] at hc
   obtain ⟨x, hx⟩ : ∃ x, l[i]? = some x := ⟨l[i]'(by omega), List.getElem?_eq_getElem _⟩
   have hw : IntKind.i64.wrap ((i : Int) + 1) = (i : Int) + 1 := wrap64_id (by omega) (by omega)
   have hkx := hk x (List.mem_of_getElem? hx)
   (repeat (first | refine pass ?_ | refine VC.region (by rfl) (by rfl) ?_ | (refine AO.step fun K hK => ?_; simp only [List.getElem?_map, hx, sPV, go_sem, Int.reduceBEq, Int.reduceLE, Int.reduceLT, Int.reduceNeg, Nat.reduceAdd, Nat.reduceEqDiff, Nat.reduceLT, Nat.reduceLeDiff, Nat.reduceMul, Nat.reduceSub, reduceCtorEq, ↓reduceIte]; (first | refine gsel_skip ?_ | refine gsel_go ?_ | skip); (first | refine hK _ _ _ ?_ | refine ⟨by first | omega | exact ⟨_, rfl, rfl⟩ | exact fun _ => ⟨_, rfl, rfl⟩ | (intro h; simp only [List.getElem?_map, hx, sPV, h, true_and]; omega) | (clear hK; intro h; simp_all <;> omega), hK _ _ _ ?_⟩); clear hK K) | refine VC.draw mixP (by rfl) (by rfl) ?_ | refine ⟨okd_of (by kernel_rfl), ?_⟩ | refine BQ.other (by decide) ?_ | refine VC.seq ?_ | refine AO.nil ?_ | refine VC.block ?_))
   ((refine AO.step fun K hK => ?_; simp only [go_sem, Int.reduceBEq, Int.reduceLE, Int.reduceLT, Int.reduceNeg, Nat.reduceAdd, Nat.reduceEqDiff, Nat.reduceLT, Nat.reduceLeDiff, Nat.reduceMul, Nat.reduceSub, reduceCtorEq, ↓reduceIte, sPV, hp, hp', pureL_app, pureL_c, List.append_assoc]; (first | refine gsel_go ?_ | skip)); refine .inl ⟨_, hkx, hK _ _ _ ?_⟩; clear hK K)
   refine walkG ?_
   refine VC.cond (by rfl) (by trivial) (fun hpx => ?_) (fun hpx => ?_)
   · have hr := idxP_at hx hpx ht
     refine walkG ?_
     refine retX Tryz.results212 ?_
     rw [hr]
     exact .c _
   · refine walkGF (hw) ?_
     refine .next ⟨i + 1, by omega, fun j y hj hy => ?_⟩ ?_ (by simp only []; omega)
     · rcases Nat.lt_or_ge j i with h | h
       · exact ht j y h hy
       · obtain rfl : j = i := by omega
         rw [hx] at hy
         obtain rfl := Option.some.inj hy
         exact hpx
     simp only [sc_pureL hp, sc_pureL hp', Weak, eq_self, used_is, sc_any, sc_c, sc_pp, sc_ref, sc_row, sc_agg, sc_fn, ScL, some_imp, List.forall_mem_map, go_sem, Int.reduceBEq, Int.reduceLE, Int.reduceLT, Int.reduceNeg, Nat.reduceAdd, Nat.reduceEqDiff, Nat.reduceLT, Nat.reduceLeDiff, Nat.reduceMul, Nat.reduceSub, reduceCtorEq, ↓reduceIte]
     exact cI (by omega)
 · simp only [decide_eq_false_iff_not] at hc
   obtain rfl : i = l.length := by omega
   have hr := idxP_none ht
   refine walkG ?_
   refine retX Tryz.results212 ?_
   rw [hr]
   exact .c _
theorem cnfS_told {g : FuncId} {fs cs : List AV} (hp : AV.pureL fs = true) (hp' : AV.pureL cs = true) (l : List (List UInt8)) (p : List UInt8 → Bool) (hk : ∀ x ∈ l, Told Tryz.prog g (fs ++ ([.c (.v (.string (str x)))] ++ cs)) (.c (.v (.bool (p x))))) :
  Told Tryz.prog 179 [.c (.sl 1 (l.map sPV)), .fn (.func g) fs cs] (.c (.v (.bool (l.any p)))) := by
 have hi := ixfS_told hp hp' l p hk
 refine VC.told ent_179 Tryz.func179 rfl Tryz.ntmps179 (by simp) (by simp [AV.pureB, AV.pureL, hp, hp']) rfl fun hb => ?_
 clear hb
 refine walkG ?_
 refine walkCF (And.intro hp hp') (hi) ?_
 refine walkG ?_
 refine retX Tryz.results179 ?_
 exact frz_c (by rw [idxP_any])
end
section
open Go.RowKit Go.Shelf
attribute [local go_sem] Oper.semAt_some
def upTo {α : Type} (f : Nat → α) (k : Nat) : List α := (List.range k).map f
theorem upTo_succ {α : Type} (f : Nat → α) (k : Nat) : upTo f (k + 1) = upTo f k ++ [f k] := by simp [upTo, List.range_succ]
theorem upTo_length {α : Type} (f : Nat → α) (k : Nat) : (upTo f k).length = k := by simp [upTo]
theorem upTo_all {α : Type} [Inhabited α] (zs : List α) (d : α) : upTo (fun j => zs[j]?.getD d) zs.length = zs := by
 apply List.ext_getElem
 · simp [upTo]
 · intro i h1 h2
   simp [upTo, h2]
theorem values1_in (F : Fence) (n : Nat) (h7 : F.fn 235) (hro : F.round = none) (hn : 1 ≤ n) (l Bs o n₀ b off len cap : Nat) (zs : List (List UInt8)) (hreach : len * 16 ≤ 140737488351232) (hb : b < n₀) (J Jx : List (List UInt8) → World → Prop)
  (hY : ∀ pre x W, J pre W → pre.length < len → YieldAt F (n - 1) Tryz.prog l #[.string (str x)] W fun e W' =>
   (e = .returned (.bool true) ∧ J (pre ++ [x]) W' ∧ Below n₀ W W') ∨ (e = .returned (.bool false) ∧ Jx (pre ++ [x]) W'))
  (W : World) (hBs : W.cell? ⟨Bs, o, none⟩ = some (.slice (some ⟨b, off, none⟩) len cap)) (hc : ∀ j, j < len → W.cell? ⟨b, off + j, none⟩ = some (.string (str (zs[j]?.getD [])))) (h0 : J [] W) :
  CallsIn F n Tryz.prog 235 #[.func (.yield l) #[] #[], .pointer (some ⟨Bs, o, none⟩)] W fun e W' => (∃ v, e = .returned v) ∧
   ((∃ ys, ys = upTo (fun j => zs[j]?.getD []) len ∧ J ys W') ∨ (∃ pre, (∃ k, k ≤ len ∧ pre = upTo (fun j => zs[j]?.getD []) k) ∧ Jx pre W')) := by
 refine callsIn_of_wp Tryz.func235 rfl h7 ?_ hro
 simp only [Tryz.ntmps235, List.size_toArray, List.length_cons, List.length_nil, Nat.reduceAdd, Nat.reduceSub, Array.replicate_succ, Array.replicate_zero, List.push_toArray, List.append_toArray, List.nil_append, List.cons_append]
 gi_wp2
 gi_loopw [7] (fun i wr => ∃ k : Nat, k ≤ len ∧ i = .int .i64 k ∧ J (upTo (fun j => zs[j]?.getD []) k) wr ∧ Below n₀ W wr)
  (fun i _ => len - (intOf i).toNat)
 case atStart => exact ⟨0, Nat.zero_le _, rfl, h0, Below.refl _ _⟩
 case round =>
  obtain ⟨k, hk, rfl, hJs, hnx⟩ := hrel
  have hcx : k < len → wr.cell? ⟨b, off + k, none⟩ = some (.string (str (zs[k]?.getD []))) := fun h => (hnx.cell (p := ⟨b, off + k, none⟩) hb).trans (hc k h)
  by_cases hlt : k < len
  · obtain ⟨fn, tmps, assign, body, hy, hR⟩ := hY _ (zs[k]?.getD []) wr hJs (by rw [upTo_length]; exact hlt)
    have hcx' := hcx hlt
    gi_wp2
    refine hR.mono ?_
    rintro e W3 (⟨rfl, hJ3, hk3⟩ | ⟨rfl, hJx3⟩)
    · gi_wp2
      go_roundw
      case rel => exact ⟨k + 1, by omega, by simp, by rw [upTo_succ]; exact hJ3, hnx.trans hk3⟩
      case measure => simp [intOf]; omega
    · gi_wp2
      refine bodyPost_ret (results_none rfl _ _ _) rfl ?_
      exact ⟨⟨_, rfl⟩, .inr ⟨_, ⟨k + 1, by omega, (upTo_succ _ _).symm⟩, hJx3⟩⟩
  · obtain rfl : k = len := by omega
    gi_wp2
    go_end0
    exact ⟨⟨_, rfl⟩, .inl ⟨_, rfl, hJs⟩⟩
theorem values1_nil_in (F : Fence) (n : Nat) (h7 : F.fn 235) (hro : F.round = none) (l Bs o : Nat) (J : List (List UInt8) → World → Prop) (W : World) (a : Option Addr) (c : Nat) (hBs : W.cell? ⟨Bs, o, none⟩ = some (.slice a 0 c)) (h0 : J [] W) :
  CallsIn F n Tryz.prog 235 #[.func (.yield l) #[] #[], .pointer (some ⟨Bs, o, none⟩)] W fun e W' => (∃ v, e = .returned v) ∧ J [] W' := by
 refine callsIn_of_wp Tryz.func235 rfl h7 ?_ hro
 simp only [Tryz.ntmps235, List.size_toArray, List.length_cons, List.length_nil, Nat.reduceAdd, Nat.reduceSub, Array.replicate_succ, Array.replicate_zero, List.push_toArray, List.append_toArray, List.nil_append, List.cons_append]
 gi_wp2
 gi_loopw [7] (fun i wr => i = .int .i64 0 ∧ J [] wr) (fun _ _ => 0)
 case atStart => exact ⟨rfl, h0⟩
 case round =>
  obtain ⟨rfl, hJs⟩ := hrel
  gi_wp2
  go_end0
  exact ⟨⟨_, rfl⟩, hJs⟩
theorem upTo_take (zs : List (List UInt8)) {k : Nat} (hk : k ≤ zs.length) : upTo (fun j => zs[j]?.getD []) k = zs.take k := by
 apply List.ext_getElem
 · simp [upTo, hk]
 · intro i h1 h2
   have : i < zs.length := by simp [upTo] at h1; omega
   simp [upTo, this]
def Strs (n₀ : Nat) (W : World) (sv : Value) (zs : List (List UInt8)) : Prop :=
 ∃ a cap, sv = .slice a zs.length cap ∧ (zs ≠ [] → ∃ b off, a = some ⟨b, off, none⟩ ∧ b < n₀ ∧ ∀ j, j < zs.length → W.cell? ⟨b, off + j, none⟩ = some (.string (str (zs[j]?.getD []))))
theorem Strs.below {n₀ : Nat} {A B : World} (h : Below n₀ A B) {sv : Value} {zs : List (List UInt8)} : Strs n₀ A sv zs → Strs n₀ B sv zs
 | ⟨a, cap, e, hc⟩ => ⟨a, cap, e, fun hn => by
   obtain ⟨b, off, h1, h2, h3⟩ := hc hn
   exact ⟨b, off, h1, h2, fun j hj => (h.cell (p := ⟨b, off + j, none⟩) h2).trans (h3 j hj)⟩⟩
theorem values_stops (F : Fence) (n : Nat) (h7 : F.fn 235) (hro : F.round = none) (hn : 1 ≤ n) (Bs o n₀ : Nat) (sv : Value) (zs : List (List UInt8)) (hreach : zs.length * 16 ≤ 140737488351232) (w : World) (hBs : Bs < w.heap.size) (hn₀ : n₀ ≤ w.heap.size)
  (hc : w.cell? ⟨Bs, o, none⟩ = some sv) (hI : Strs n₀ w sv zs) :
  SeqStopsK F n Tryz.prog 235 #[.pointer (some ⟨Bs, o, none⟩)] (fun x : List UInt8 => #[Value.string (str x)]) (Below n₀) (fun ys => ys = zs) (fun pre => pre <+: zs) zs.length w := fun l J Jx W hW _ _ hY h0 => by
 have hc' := (hW.cell (p := ⟨Bs, o, none⟩) hBs).trans hc
 obtain ⟨a, cap, rfl, hcs⟩ := hI.below (hW.mono hn₀)
 by_cases hz : zs = []
 · subst hz
   exact (values1_nil_in F n h7 hro l Bs o J W a cap hc' h0).mono fun e W' ⟨he, hj⟩ => ⟨he, .inl ⟨_, rfl, hj⟩⟩
 · obtain ⟨b, off, rfl, hb, hcs⟩ := hcs hz
   refine (values1_in F n h7 hro hn l Bs o n₀ b off zs.length cap zs hreach hb J Jx hY W hc' hcs h0).mono ?_
   rintro e W' ⟨he, ⟨ys, rfl, hj⟩ | ⟨pre, ⟨k, hk, rfl⟩, hj⟩⟩
   · exact ⟨he, .inl ⟨_, upTo_all zs _, hj⟩⟩
   · exact ⟨he, .inr ⟨_, by rw [upTo_take zs hk]; exact List.take_prefix _ _, hj⟩⟩
def sV (s : List UInt8) : Value := .string (str s)
theorem sinfo : (Tryz.prog.info? 9).map (fun i => (i.zero, i.size, i.bytes)) = some (some (.string ⟨#[]⟩), 1, 16) := by kernel_rfl
theorem appendSeq_in (F : Fence) (n : Nat) (h3 : F.fn 243) (h7 : F.fn 235) (hro : F.round = none) (hn : 3 ≤ n) (Bs o : Nat) (sv : Value) (zs : List (List UInt8)) (hlen : zs.length ≤ maxLen) (hbytes : zs.length * 16 ≤ 140737488351232) (w : World) (hBs : Bs < w.heap.size)
  (hc : w.cell? ⟨Bs, o, none⟩ = some sv) (hI : Strs w.heap.size w sv zs) :
  CallsIn F n Tryz.prog 243 #[.slice none 0 0, .func (.func 235) #[] #[.pointer (some ⟨Bs, o, none⟩)]] w fun e W' => ∃ v, e = .returned v ∧ W'.ownsRow w.heap.size 9 1 v zs.length (zs.map sV) ∧ Below w.heap.size w W' := by
 have h1 : 1 ≤ n := by omega
 obtain ⟨i0, hi, hz0, hz1, hz2⟩ := info_parts sinfo
 refine callsIn_of_wp_marks Tryz.func243 rfl h3 ?_ hro
 simp only [Tryz.ntmps243, List.size_toArray, List.length_cons, List.length_nil, Nat.reduceAdd, Nat.reduceSub, Array.replicate_succ, Array.replicate_zero, List.push_toArray, List.append_toArray, List.nil_append, List.cons_append]
 gi_wp2
 have bO := Boxed.new w 29 (.slice none 0 0)
 have hB0 : Below w.heap.size w (w.alloc (.cells #[.slice none 0 0] 29)) := (Below.refl _ w).alloc (Nat.le_refl _) _
 refine wpIn_rangeFunc_ownG hro h1 (gf := 235) (lb := #[.pointer (some ⟨Bs, o, none⟩)]) rfl h7 (enters_of Tryz.func235 (by kernel_rfl) rfl)
  (values_stops F (n - 1) h7 hro (by omega) Bs o w.heap.size sv zs hbytes _ (by simp; omega) (by simp) ((hB0.cell (p := ⟨Bs, o, none⟩) hBs).trans hc) (hI.below hB0)) belowK_t (belowK_b (by simp)) (Below.refl _ _) (fun _ => rfl)
  (fun pre W => (∃ v, Boxed W w.heap.size 29 v ∧ W.ownsRow w.heap.size 9 1 v pre.length (pre.map sV) ∧ (v = .slice none 0 0 ↔ pre = [])) ∧ Below w.heap.size w W)
  (fun _ _ _ => False)
  (OwnFrom.and (Own.from (holdsRow_own w.heap.size w.heap.size 29 9 1 (fun pre => pre.length) (fun pre => pre.map sV) (fun pre v => v = .slice none 0 0 ↔ pre = [])) _) (ownFrom_below (Nat.le_refl _) (by simp)))
  (fun _ _ _ _ _ hs _ _ => hs)
  ⟨⟨_, bO, World.ownsRow_nil _ _ _ _, by simp⟩, hB0⟩
  (fun x => { tmps := #[.slice none 0 0, .func (.func 235) #[] #[.pointer (some ⟨Bs, o, none⟩)], .pointer (some ⟨w.heap.size, 0, none⟩), undef, .slice none 0 0, .string (str x), .func (.func 235) #[] #[.pointer (some ⟨Bs, o, none⟩)], .string (str x), undef, undef, undef, undef, undef], defers := [] }) ?assign ?body ?done ?stop
 case assign =>
  intro l x W K hK
  gi_wp2
  exact hK
 case body =>
  rintro l pre x W ⟨⟨v, hv, hrow, hnil⟩, hB⟩ hlt
  have hc := hv.cell
  gi_wp2_with (gi_at_builtin; refine wpListIn_append_own _ rfl _ _ 29 rfl w.heap.size 9 i0 (.string ⟨#[]⟩) 1 16 Tryz.underlying29 hi hz0 hz1 hz2 rfl (by decide) _ _ _ rfl (hrow.alloc _) ⟨W.heap.size, 0, none⟩ 1 1 [.string (str x)] rfl rfl (cell_one_new _ _ _) (by simp [Value.oneCell']) (by omega) (by omega) (by have := hB.size; simp; omega) ?_; intro v' w1 hown' hgrow _; obtain ⟨g', cap', rfl⟩ := ownsRow_succ hown'; obtain ⟨hv1, hv2, hr2, hk2, hb2⟩ := hv.appended (by decide) hrow hB.size (Nat.le_refl _) hown' hgrow; have hc1 := hv1.cell; have hf1 := hv1.frozen)
  exact ⟨hk2.from _, hb2, ⟨_, hv2, by simpa [sV] using hr2, by simp⟩, hB.trans hb2⟩
 case done =>
  rintro D ys W hD rfl ⟨⟨v, hv, hrow, hnil⟩, hB⟩ hK
  have hc := hv.cell
  gi_wp2
  refine ⟨by simp, .inl ⟨_, _, rfl, run_takeDeferred hK, ?_⟩⟩
  exact ⟨_, results_tmp rfl _ _ _, v, rfl, ownsRow_putObj hrow _ hK rfl, hB.trans (belowK_b (w := w) (Nat.le_refl _) W D _ _ (by simp at hD; omega) hK rfl rfl)⟩
 case stop =>
  rintro D c pre W _ _ h _
  exact h.elim
theorem appendSeq_plain (Bs o : Nat) (sv : Value) (zs : List (List UInt8)) (hlen : zs.length ≤ maxLen) (hbytes : zs.length * 16 ≤ 140737488351232) (w : World) (hBs : Bs < w.heap.size)
  (hc : w.cell? ⟨Bs, o, none⟩ = some sv) (hI : Strs w.heap.size w sv zs) :
  Calls Tryz.prog 243 #[.slice none 0 0, .func (.func 235) #[] #[.pointer (some ⟨Bs, o, none⟩)]] w fun e W' => ∃ v, e = .returned v ∧ W'.ownsRow w.heap.size 9 1 v zs.length (zs.map sV) ∧ Below w.heap.size w W' :=
 calls_of_every_depth (L := [243, 235]) (n := 3) fun D => appendSeq_in _ 3 (by simp [Fence.list]) (by simp [Fence.list]) rfl (Nat.le_refl _) Bs o sv zs hlen hbytes w hBs hc hI
end
section
open Go.RowKit Go.Sort
def sA (l : List (List UInt8)) : List (List AV) := l.map fun s => [AV.c (.v (.string (str s)))]
def sB (l : List (List UInt8)) : Blkd := ⟨true, 9, 1, sA l⟩
theorem sA_len (l : List (List UInt8)) : (sA l).length = l.length := by simp [sA]
theorem sA_ren (ρ : Nat → Nat) (l : List (List UInt8)) : (sA l).map (AV.renL ρ) = sA l := by
 induction l with
 | nil => rfl
 | cons x l ih => show AV.renL ρ _ :: (sA l).map _ = _; rw [ih]; rfl
theorem sA_sc {used : Nat → Prop} {h : Nat → Option Blkd} (l : List (List UInt8)) : (∀ e ∈ sA l, ∀ x ∈ e, Sc used h x) = True := eq_true fun e he x hx => by
 obtain ⟨b, _, rfl⟩ := List.mem_map.1 he
 simp at hx
 subst hx
 exact .c
theorem sA_flat (l : List (List UInt8)) : (sA l).flatten = l.map fun s => AV.c (.v (.string (str s))) := by
 induction l with
 | nil => rfl
 | cons x l ih => show _ ++ (sA l).flatten = _; rw [ih]; rfl
theorem own_of_brep {W : World} {ro : Nat → Prop} {φ : Nat → Value} {h : Nat → Option Blkd} {j : Nat} {l : List (List UInt8)} (hB : BRep W ro φ h j (sB l)) : W.ownsRow 0 9 1 (φ j) l.length (l.map sV) := by
 obtain ⟨h1, h2, vs, h3, h4⟩ := hB
 rw [if_pos (show (sB l).row = true from rfl)] at h4
 have hvs : vs = l.map sV := by
  have h5 : RepL W ro φ h (l.map fun s => AV.c (.v (.string (str s)))) vs := by rw [← sA_flat]; exact h3
  apply List.ext_getElem?
  intro k
  by_cases hk : k < l.length
  · have hkv : k < vs.length := by rw [h5.1]; simpa using hk
    have := h5.2 k _ _ (by rw [List.getElem?_map, List.getElem?_eq_getElem hk]; rfl) (List.getElem?_eq_getElem hkv)
    rw [List.getElem?_eq_getElem hkv, rep_prim this, List.getElem?_map, List.getElem?_eq_getElem hk]
    rfl
  · rw [List.getElem?_eq_none (by rw [h5.1]; simpa using hk), List.getElem?_eq_none (by simpa using hk)]
 subst hvs
 have : (sB l).len = l.length := sA_len l
 rw [this] at h4
 exact h4
theorem brep_of_own {W : World} {ro : Nat → Prop} {φ : Nat → Value} {h : Nat → Option Blkd} {j : Nat} {l : List (List UInt8)} (ho : W.ownsRow 0 9 1 (φ j) l.length (l.map sV)) : BRep W ro φ h j (sB l) := by
 refine ⟨fun i e he => ?_, fun e he x hx => ?_, l.map sV, ?_, ?_⟩
 · obtain ⟨s, _, rfl⟩ := List.mem_map.1 (List.mem_of_getElem? he)
   rfl
 · obtain ⟨s, _, rfl⟩ := List.mem_map.1 he
   simp at hx
   subst hx
   rfl
 · show RepL W ro φ h (sA l).flatten _
   rw [sA_flat]
   refine ⟨by simp, fun k x v hx hv => ?_⟩
   rw [List.getElem?_map] at hx hv
   obtain ⟨s, h1, rfl⟩ := Option.map_eq_some_iff.1 hx
   rw [h1] at hv
   obtain rfl := Option.some.inj hv
   exact .c (.v rfl)
 · rw [if_pos (show (sB l).row = true from rfl)]
   have : (sB l).len = l.length := sA_len l
   rw [this]
   exact ho
theorem hok_one {W : World} {ro : Nat → Prop} {φ : Nat → Value} {B : Blkd} (hB : BRep W ro φ (LentL [some B]) 1000000 B) (ho : ∀ b, blkOf (φ 1000000) = some b → ¬ ro b) : HOk W ro φ (LentL [some B]) := by
 have key : ∀ j B1, LentL [some B] j = some B1 → j = 1000000 ∧ B1 = B := by
  intro j B1 hj
  obtain ⟨h1, h2⟩ := lentL_some hj
  have h3 := (List.getElem?_eq_some_iff.1 h2).1
  simp at h3
  obtain rfl : j = 1000000 := by omega
  simp at h2
  exact ⟨rfl, h2.symm⟩
 refine ⟨fun j B1 hj => ?_, fun j k B1 B2 b hj hk hne => ?_, fun j B1 b hj hb => ?_⟩
 · obtain ⟨rfl, rfl⟩ := key j B1 hj
   exact hB
 · exact absurd ((key j B1 hj).1.trans (key k B2 hk).1.symm) hne
 · obtain ⟨rfl, rfl⟩ := key j B1 hj
   exact ho b hb
theorem row_arg {W : World} {ro : Nat → Prop} {φ : Nat → Value} {B : Blkd} {vs : List Value} {n : Nat} (hn : B.len = n) (hl : RepL W ro φ (LentL ([B].map some)) [.row 1000000 n] vs) : vs = [φ 1000000] := by
 obtain ⟨h1, h2⟩ := hl
 match vs, h1, h2 with
 | [v], _, h2 =>
   have := h2 0 _ v rfl rfl
   cases this with
   | row _ hv => rw [hv B (by simp [LentL]) hn]
def srt (l : List (List UInt8)) : List (List UInt8) := l.mergeSort fun x y => decide (x ≤ y)
theorem srt_len (l : List (List UInt8)) : (srt l).length = l.length := by simp [srt]
theorem appendSeq_told (l : List (List UInt8)) (hl : l.length ≤ 4294967296) :
  ToldM Tryz.prog 243 [.c (.v (.slice none 0 0)), .fn (.func 235) [] [.pp [.sl 1 (l.map sPV)]]] [] [some (sB l)] (.row 1000000 l.length) := by
 refine ⟨ent_243, trivial, ⟨?_, ?_⟩, fun W ro φ vs hro hgk hal hok => ?_⟩
 · exact .row ⟨by omega, by simp⟩ fun B hB => by simp [LentL] at hB; subst hB; exact Nat.le_of_eq (sA_len l).symm
 · intro b hb B hB e he
   simp at hb
   subst hb
   obtain rfl := Option.some.inj hB
   exact fun x hx => (of_eq_true (sA_sc l)) e he x hx
 · obtain ⟨h1, h2⟩ := hal
   match vs, h1, h2 with
   | [v0, v1], _, h2 =>
     have e0 := rep_prim (h2 0 _ v0 rfl rfl)
     have e1 := h2 1 _ v1 rfl rfl
     subst e0
     cases e1 with
     | @fn _ _ _ us us' q1 q2 q3 q4 =>
       obtain rfl : us = [] := List.eq_nil_of_length_eq_zero q1
       match us', q3, q4 with
       | [p], _, q4 =>
         have e2 := q4 0 _ p rfl rfl
         cases e2 with
         | @pp _ b off vs hb hc hp =>
           match vs, hp with
           | [sv], hp =>
             have hsv := hp.2 0 _ sv rfl rfl
             have hcell : W.cell? ⟨b, off, none⟩ = some sv := by have := hc 0 (by simp); simpa using this
             have hS : Strs W.heap.size W sv l := by
              cases hsv with
              | @sl _ _ a c vss hn hcc hnil ha hll hz hz' hx =>
                refine ⟨a, c, by simp, fun hne => ?_⟩
                obtain ⟨b', off', rfl, hb', hcs⟩ := ha (by simpa using hne)
                refine ⟨b', off', rfl, hro b' hb', fun j hj => ?_⟩
                have hjv : j < vss.length := by rw [hll]; simpa using hj
                have hvj := List.getElem?_eq_getElem hjv
                have hlen := hz' j _ hvj
                have hx1 := hx j 0 (sPV l[j]) vss[j] (.v (.string (str l[j]))) (vss[j]'hjv)[0] (by rw [List.getElem?_map, List.getElem?_eq_getElem hj]; rfl) hvj rfl (List.getElem?_eq_getElem _)
                have hcc := hcs j _ hvj 0 (by omega)
                rw [List.getElem?_eq_getElem (by omega)] at hcc
                have hxe := rep_prim (h := h0) (φ := φ0) (.c hx1)
                rw [Nat.mul_one, Nat.add_zero] at hcc
                rw [hcc, hxe, List.getElem?_eq_getElem hj]
                rfl
             refine (appendSeq_plain b off sv l (by unfold maxLen; omega) (by omega) W (hro b hb) hcell hS).mono ?_
             rintro e W' ⟨v, rfl, hown, hbel⟩
             have hlt := World.ownsRow.lt hown
             refine ⟨v, ro, fun _ => v, rfl, ⟨hbel.os, hbel.tape, hbel.output, hbel.size, fun k hk _ => hbel.block k hk⟩, fun b h => h, fun b h => ⟨.inl h, Nat.lt_of_lt_of_le (hro b h) hbel.size⟩, ?_, ?_, ?_, ?_⟩
             · exact .row (by rcases hown.2 with ⟨q, _⟩ | ⟨_, _, _, q, _⟩ <;> rw [q] <;> rfl) fun B hB hn => rfl
             · refine hok_one (brep_of_own ?_) fun b hb' hrb => ?_
               · refine ⟨hown.1, ?_⟩
                 rcases hown.2 with h9 | ⟨g, cap, cur, h9, _, h10⟩
                 · exact .inl h9
                 · exact .inr ⟨g, cap, cur, h9, Nat.zero_le _, h10⟩
               · have := (hlt b (by rw [← own_blk hown]; exact hb')).1
                 have := hro b hrb
                 omega
             · intro j B' hj; exact absurd hj.2 (by have := hj.1; simp; omega)
             · intro j B b hj hb'
               exact .inl (hlt b (by rw [← own_blk hown]; exact hb')).1
theorem sort_told (l : List (List UInt8)) (hl : l.length ≤ 4294967296) : ToldM Tryz.prog 234 [.row 1000000 l.length] [sB l] [some (sB (srt l))] (.tup []) := by
 refine ⟨ent_234, ⟨rfl, trivial⟩, ⟨.tup (by simp), ?_⟩, fun W ro φ vs hro hgk hal hok => ?_⟩
 · intro b hb B hB e he
   simp at hb
   subst hb
   obtain rfl := Option.some.inj hB
   exact fun x hx => (of_eq_true (sA_sc (srt l))) e he x hx
 · obtain rfl := row_arg (B := sB l) (sA_len l) hal
   have hlen : LentL ([sB l].map some) 1000000 = some (sB l) := by simp [LentL]
   have hown := own_of_brep (hok.hp 1000000 _ hlen)
   have fin : ∀ W', W.grownBy W' (φ 1000000).ownBlock → W'.ownsRow 0 9 1 (φ 1000000) (srt l).length ((srt l).map sV) →
     ∃ v ro' φ', Ending.returned (.tuple #[]) = .returned v ∧ Keeps (fun b => ∃ j B, LentL ([sB l].map some) j = some B ∧ blkOf (φ j) = some b) W W' ∧ (∀ b, ro b → ro' b) ∧
      (∀ b, ro' b → (ro b ∨ W.heap.size ≤ b ∨ ∃ j B, LentL ([sB l].map some) j = some B ∧ blkOf (φ j) = some b) ∧ b < W'.heap.size) ∧ Rep W' ro' φ' (LentL [some (sB (srt l))]) (.tup []) v ∧ HOk W' ro' φ' (LentL [some (sB (srt l))]) ∧
      Goes (inL [sB l].length) φ φ' (LentL ([sB l].map some)) (LentL [some (sB (srt l))]) ∧ (∀ j B b, LentL [some (sB (srt l))] j = some B → blkOf (φ' j) = some b → W.heap.size ≤ b ∨ ∃ j B, LentL ([sB l].map some) j = some B ∧ blkOf (φ j) = some b) := by
    intro W' hg ho
    refine ⟨_, ro, φ, rfl, ⟨hg.os, hg.tape, hg.output, hg.size, fun k hk hm => hg.block k hk fun e => hm ⟨1000000, _, hlen, by rw [own_blk hown, e]⟩⟩, fun b h => h, fun b h => ⟨.inl h, Nat.lt_of_lt_of_le (hro b h) hg.size⟩, .tup (vs := []) rfl (by simp), hok_one (brep_of_own ho) fun b hb => hok.own 1000000 _ b hlen hb, ?_, ?_⟩
    · intro j B' hj hB'
      obtain rfl : j = 1000000 := by have := hj.1; have := hj.2; simp at this; omega
      simp [LentL] at hB'
      subst hB'
      exact ⟨_, hlen, .inr ⟨by show (sA l).length = (sA (srt l)).length; rw [sA_len, sA_len, srt_len], rfl, rfl⟩⟩
    · intro j B b hj hb
      obtain ⟨h1, h2⟩ := lentL_some hj
      have h3 := (List.getElem?_eq_some_iff.1 h2).1
      simp at h3
      obtain rfl : j = 1000000 := by omega
      exact .inr ⟨1000000, _, hlen, hb⟩
   rcases hown.2 with ⟨h1, h2⟩ | ⟨g, cap, cur, h1, _, h2, h3, h4, h5, h6⟩
   · obtain rfl : l = [] := List.eq_nil_of_length_eq_zero h2
     rw [h1]
     refine (Tryz.slices_Sort_string_none none 0 W).mono ?_
     rintro e W' ⟨rfl, rfl⟩
     exact fin W' ⟨rfl, rfl, rfl, Nat.le_refl _, fun _ _ _ => rfl⟩ (by rw [show srt [] = [] from by simp [srt]]; exact hown)
   · have hH : Holds encStr W g 0 l.toArray := holds_of_block h2 (by rw [← Nat.mul_one l.length]; exact h6)
     rw [h1]
     refine (Tryz.slices_Sort_string g 0 cap l W hH (Array.getElem?_eq_some_iff.1 h2).1 (by omega)).mono ?_
     rintro e W' ⟨rfl, n, os, rfl⟩
     refine fin _ ?_ ?_
     · rw [h1]; exact grownBy_sorted _
     · rw [h1]
       have := ownsRow_sorted (n := n) (os := os) (ts := srt l) (srt_len l) (Nat.zero_le g) h2 h3 h4 h5
       rw [srt_len]
       exact this
theorem lentL_gone (j : Nat) : LentL [none] j = none := by
 unfold LentL
 split
 · cases h : j - 1000000 with
   | zero => rfl
   | succ k => rfl
 · rfl
theorem compact_len (l : List (List UInt8)) : (Lib.compact l).length ≤ l.length := by
 unfold Lib.compact Lib.compactUpTo
 rw [List.length_map]
 exact Nat.le_trans (List.length_filter_le _ _) (by simp)
theorem compact_told (l : List (List UInt8)) (hl : l.length ≤ 4294967296) : ToldM Tryz.prog 220 [.row 1000000 l.length] [sB l] [none] (.c (.sl 1 ((Lib.compact l).map sPV))) := by
 refine ⟨ent_220, trivial, ⟨.c, fun b hb B hB => by simp at hb; subst hb; simp at hB⟩, fun W ro φ vs hro hgk hal hok => ?_⟩
 obtain rfl := row_arg (B := sB l) (sA_len l) hal
 have hlen : LentL ([sB l].map some) 1000000 = some (sB l) := by simp [LentL]
 have hown := own_of_brep (hok.hp 1000000 _ hlen)
 have hbl : ∀ b, blkOf (φ 1000000) = some b → b < W.heap.size := fun b hb => (World.ownsRow.lt hown b (by rw [← own_blk hown]; exact hb)).2
 have fin : ∀ (W' : World) (u : Value), W.grownBy W' (φ 1000000).ownBlock → PRep W' (fun b => ro b ∨ blkOf (φ 1000000) = some b) (.sl 1 ((Lib.compact l).map sPV)) u →
   ∃ v ro' φ', Ending.returned u = .returned v ∧ Keeps (fun b => ∃ j B, LentL ([sB l].map some) j = some B ∧ blkOf (φ j) = some b) W W' ∧ (∀ b, ro b → ro' b) ∧
    (∀ b, ro' b → (ro b ∨ W.heap.size ≤ b ∨ ∃ j B, LentL ([sB l].map some) j = some B ∧ blkOf (φ j) = some b) ∧ b < W'.heap.size) ∧ Rep W' ro' φ' (LentL [none]) (.c (.sl 1 ((Lib.compact l).map sPV))) v ∧ HOk W' ro' φ' (LentL [none]) ∧
    Goes (inL [sB l].length) φ φ' (LentL ([sB l].map some)) (LentL [none]) ∧ (∀ j B b, LentL [none] j = some B → blkOf (φ' j) = some b → W.heap.size ≤ b ∨ ∃ j B, LentL ([sB l].map some) j = some B ∧ blkOf (φ j) = some b) := by
  intro W' u hg hu
  refine ⟨u, _, φ, rfl, ⟨hg.os, hg.tape, hg.output, hg.size, fun k hk hm => hg.block k hk fun e => hm ⟨1000000, _, hlen, by rw [own_blk hown, e]⟩⟩, fun b h => .inl h, fun b h => ?_, .c hu, ⟨fun j B hj => ?_, fun j k B B' b hj => ?_, fun j B b hj => ?_⟩, fun j B hj hB => ?_, fun j B b hj => ?_⟩
  · rcases h with h | h
    · exact ⟨.inl h, Nat.lt_of_lt_of_le (hro b h) hg.size⟩
    · exact ⟨.inr (.inr ⟨1000000, _, hlen, h⟩), Nat.lt_of_lt_of_le (hbl b h) hg.size⟩
  all_goals first | (rw [lentL_gone] at hj; simp at hj) | (rw [lentL_gone] at hB; simp at hB)
 rcases hown.2 with ⟨h1, h2⟩ | ⟨g, cap, cur, h1, _, h2, h3, h4, h5, h6⟩
 · obtain rfl : l = [] := List.eq_nil_of_length_eq_zero h2
   rw [h1]
   refine (Tryz.slices_Compact_string_empty none 0 W).mono ?_
   rintro e W' ⟨rfl, rfl⟩
   exact fin W' _ ⟨rfl, rfl, rfl, Nat.le_refl _, fun _ _ _ => rfl⟩ (PRep.nil _ _ _)
 · have hH : Holds encStr W g 0 l.toArray := holds_of_block h2 (by rw [← Nat.mul_one l.length]; exact h6)
   rw [h1]
   refine (Tryz.slices_Compact_string g 0 cap l W hH (by omega) h3).mono ?_
   rintro e W' ⟨rfl, q, rfl⟩
   obtain ⟨ts, hts⟩ : ∃ ts, ts = Lib.compact l ++ List.replicate (l.length - (Lib.compact l).length) [] := ⟨_, rfl⟩
   have hcl := compact_len l
   have htl : ts.length = l.length := by rw [hts]; simp; omega
   rw [← hts]
   have hg := grownBy_sorted (w := W) (g := g) (n := q) (os := #[]) ts.toArray
   have ho := ownsRow_sorted (n := q) (os := #[]) (ts := ts) htl (Nat.zero_le g) h2 h3 h4 h5
   rw [grow_empty] at hg ho
   refine fin _ _ (by rw [h1]; exact hg) ?_
   rcases ho.2 with ⟨h7, _⟩ | ⟨g', cap', cur', h7, _, h8, h9, h10, h11, h12⟩
   · simp at h7
   · obtain ⟨rfl, rfl⟩ : g = g' ∧ cap = cap' := by simpa using h7
     have hm : ((Lib.compact l).map sPV).length = (Lib.compact l).length := by simp
     rw [← hm]
     refine .sl (vss := (Lib.compact l).map fun s => [sV s]) (by rw [hm]; omega) (by unfold maxLen at h4; omega) (fun h => by simp at h) (fun hne => ⟨g, 0, rfl, .inr (by rw [h1]; rfl), fun i vs hi => ?_⟩) (by simp) (fun i e he => ?_) (fun i vs hi => ?_) (fun i j e vs p v he hvs hp hv => ?_)
     · rw [List.getElem?_map] at hi
       obtain ⟨s, h13, rfl⟩ := Option.map_eq_some_iff.1 hi
       intro j hj
       obtain rfl : j = 0 := by simpa using hj
       have h14 : (cur'.toList.take (l.length * 1))[i]? = some (sV s) := by
        rw [h12, List.getElem?_map, hts, List.getElem?_append_left (List.getElem?_eq_some_iff.1 h13).1, h13]; rfl
       have hi2 : i < l.length := by have := (List.getElem?_eq_some_iff.1 h13).1; omega
       rw [List.getElem?_take_of_lt (by omega)] at h14
       have := cells_of_take h8 (l.length * 1) i (by rw [List.length_take]; simp; omega)
       rw [Nat.zero_add, List.getElem?_take_of_lt (by omega), h14] at this
       simpa using this
     · obtain ⟨s, _, rfl⟩ := List.mem_map.1 (List.mem_of_getElem? he); rfl
     · obtain ⟨s, _, rfl⟩ := List.mem_map.1 (List.mem_of_getElem? hi); rfl
     · rw [List.getElem?_map] at he hvs
       obtain ⟨s, h13, rfl⟩ := Option.map_eq_some_iff.1 he
       rw [h13] at hvs
       obtain rfl := Option.some.inj hvs
       match j, hp, hv with
       | 0, hp, hv =>
         obtain rfl := Option.some.inj hp
         obtain rfl := Option.some.inj hv
         exact .v rfl
end
section
attribute [local go_sem] opx opE ev okx gcond bnd okO AV.get AV.okb cAV upd_at putd_some putd_none wrs_nil wrs_cons look_nil look_cons st argT_at bpick_and bpick_or bpick_true bpick_false binV binI binS binVOk binOk isShift binSOk unV unVOk loadV loadP cellsA zeroA Blkd.len setE grown moreA moreR moreOk eqRes pv fillA fillE putSeg AV.cellish AV.pureL AV.pureB lentL_is ex_some AV.ren AV.renL renL_c Blkd.ren rho wrM renN lentOk rhoE keepM endOk tyA_2 tyA_3 tyA_4 tyA_5 tyA_6 tyA_7 tyA_8 tyA_9 tyA_10 tyA_11 tyA_12 tyA_13 tyA_14 tyA_15 tyA_16 tyA_17 tyA_18 tyA_19 tyA_21 tyA_22 tyA_23 tyA_24 tyA_29 tyA_30 tyA_31 tyA_32 tyA_33 tyA_34 tyA_35 tyA_36 tyA_37 tyA_38 tyA_39 tyA_40 tyA_41 tyA_42 tyA_43 tyA_48 tyA_72 tyA_76 tyA_85 tyA_86 tyA_87 tyA_88 tyA_97 tyA_100 tyA_101 tyA_102 tyA_103 tyA_104 tyA_105 tyA_106 tyA_128 tyA_137 tyA_138 tyA_139 tyA_140 tyA_141 tyA_142 tyA_147 tyA_148 tyA_149 tyA_167 tyA_168 tyA_169 tyA_170 tyA_172 tyA_176 tyA_177 tyA_178 tyA_186 tyA_196 tyA_231 tyA_232 tyA_233 tyA_257 tyA_262 tyA_268 tyA_270 tyA_272 tyA_281 tyA_285 tyA_287 tyA_290 tyA_291 tyA_292 tyA_293 tyA_294 tyA_295 tyA_296 tyA_298 tyA_299 Option.map_some Option.map_none Option.getD_some Option.getD_none Option.bind_some Option.bind_none List.getElem?_cons_zero List.getElem?_cons_succ List.getElem?_nil List.getElem?_toArray List.length_cons List.length_nil List.length_map List.forall_mem_map List.map_cons List.map_nil List.drop_zero List.drop_succ_cons List.drop_nil List.take_zero List.take_succ_cons List.take_nil List.mem_cons List.not_mem_nil or_false forall_eq_or_imp forall_eq List.set_cons_zero List.set_cons_succ List.cons_append List.nil_append List.append_nil List.foldl_cons List.foldl_nil List.replicate_succ List.replicate_zero List.all_cons List.all_nil if_true if_false Bool.false_eq_true ne_eq not_false_eq_true not_true_eq_false true_and and_true and_self true_implies imp_self implies_true forall_const beq_self_eq_true Bool.and_true Bool.true_and Bool.and_false Bool.false_and Bool.or_true Bool.true_or Bool.or_false Bool.false_or Bool.not_true Bool.not_false Bool.not_eq_eq_eq_not intKindOf Value.oneCell' Int.toNat_natCast beq_true beq_false Bool.not_eq_true false_implies false_or true_or or_true Nat.zero_add Nat.add_zero decide_true decide_false Int.cast_ofNat_Int Int.toNat_zero Int.toNat_one eq_self

mutual
def JT.sm (N : Nat) : JT → Prop
 | .mk k n s ks xs => s.length ≤ N ∧ ks.length ≤ N ∧ (∀ y ∈ ks, y.length ≤ N) ∧ xs.length ≤ N ∧ JT.smL N xs
def JT.smL (N : Nat) : List JT → Prop
 | [] => True
 | x :: xs => x.sm N ∧ JT.smL N xs
end
theorem smL_mem {N : Nat} : ∀ {xs : List JT}, JT.smL N xs → ∀ x ∈ xs, x.sm N
 | x :: xs, h, y, hy => by
   rcases List.mem_cons.1 hy with rfl | hy
   · exact h.1
   · exact smL_mem h.2 y hy
def jbare : JT → Bool
 | .mk k n s ks xs =>
   if k = 1 then (n == 0) && s.isEmpty && xs.isEmpty else if k = 2 then (n == 0 || n == 1) && s.isEmpty && xs.isEmpty else if k = 3 then s.isEmpty && xs.isEmpty
   else if k = 4 then (n == 0) && xs.isEmpty && isRight s else if k = 5 ∨ k = 6 then (n == 0) && s.isEmpty else false
theorem str_empty (s : List UInt8) : (!((str s).toList == (⟨#[]⟩ : ByteArray).toList)) = !s.isEmpty := by
 rw [str_toList, show (⟨#[]⟩ : ByteArray) = str [] from rfl, str_toList]
 cases s <;> rfl
theorem nn_eq (n m : Int) : (!(n != m)) = (n == m) := by cases h : n == m <;> simp_all [bne]
theorem jbare_told (t : JT) (ht : t.sm 140737488355328) : Told Tryz.prog 189 [t.av] (.c (.v (.bool (jbare t)))) := by
 cases t with
 | mk k n s ks xs =>
 have hs : s.length ≤ 140737488355328 := ht.1
 have hR := uright_told s (by omega)
 refine VC.told ent_189 Tryz.func189 rfl Tryz.ntmps189 (by simp) rfl rfl fun hb => ?_
 clear hb
 have g1 : decide ((xs.length : Int) > 0) = !xs.isEmpty := by cases xs <;> simp <;> omega
 refine walkGF (And.intro @JT.av_eq (And.intro @cells_mk (And.intro @str_empty g1))) ?_
 refine VC.cond (by rfl) (by trivial) (fun h1 => ?_) (fun h1 => ?_)
 · refine walkG ?_
   refine retX Tryz.results189 ?_
   refine frz_c ?_
   simp only [beq_iff_eq] at h1
   simp only [jbare, h1, if_true, nn_eq, bpick_and, Bool.not_not]
 refine walkGF (And.intro @JT.av_eq @cells_mk) ?_
 refine VC.cond (by rfl) (by trivial) (fun h2 => ?_) (fun h2 => ?_)
 · refine walkGF (And.intro @cells_mk (And.intro @str_empty g1)) ?_
   refine retX Tryz.results189 ?_
   refine frz_c ?_
   obtain rfl : k = 2 := by simpa using h2
   simp [jbare]
 refine walkGF (And.intro @JT.av_eq @cells_mk) ?_
 refine VC.cond (by rfl) (by trivial) (fun h3 => ?_) (fun h3 => ?_)
 · refine walkGF (And.intro @cells_mk (And.intro @str_empty g1)) ?_
   refine retX Tryz.results189 ?_
   refine frz_c ?_
   obtain rfl : k = 3 := by simpa using h3
   simp [jbare]
 refine walkGF (And.intro @JT.av_eq @cells_mk) ?_
 refine VC.cond (by rfl) (by trivial) (fun h4 => ?_) (fun h4 => ?_)
 · obtain rfl : k = 4 := by simpa using h4
   refine walkGF (And.intro @cells_mk (And.intro @str_empty (And.intro g1 (And.intro @str_size hs)))) ?_
   refine walkDF (@str_dl) (hR) ?_
   refine walkG ?_
   refine retX Tryz.results189 ?_
   refine frz_c ?_
   simp only [jbare, nn_eq, bpick_and, Bool.not_not]
   simp
 refine walkGF (And.intro @JT.av_eq @cells_mk) ?_
 refine VC.cond (by rfl) (by trivial) (fun h5 => ?_) (fun h5 => ?_)
 · obtain rfl : k = 5 := by simpa using h5
   refine walkGF (@cells_mk) ?_
   refine VC.condT (by rfl) (by trivial) ?_
   refine walkGF (And.intro @cells_mk (And.intro @str_empty g1)) ?_
   refine retX Tryz.results189 ?_
   refine frz_c ?_
   simp only [jbare, nn_eq, bpick_and, Bool.not_not]
   simp
 refine walkGF (And.intro @JT.av_eq @cells_mk) ?_
 refine VC.cond (by rfl) (by trivial) (fun h6 => ?_) (fun h6 => ?_)
 · obtain rfl : k = 6 := by simpa using h6
   refine walkGF (And.intro @cells_mk (And.intro @str_empty g1)) ?_
   refine retX Tryz.results189 ?_
   refine frz_c ?_
   simp only [jbare, nn_eq, bpick_and, Bool.not_not]
   simp
 · refine walkGF (And.intro @cells_mk (And.intro @str_empty g1)) ?_
   refine retX Tryz.results189 ?_
   refine frz_c ?_
   simp only [beq_eq_false_iff_ne] at h1 h2 h3 h4 h5 h6
   simp [jbare, h1, h2, h3, h4, h5, h6]
section
open Go.RowKit Go.Sort
theorem valuesS_told (l : List (List UInt8)) : Told Tryz.prog 218 [.c (.sl 1 (l.map sPV))] (.fn (.func 235) [] [.pp [.sl 1 (l.map sPV)]]) := by
 refine VC.toldP ent_218 Tryz.func218 rfl Tryz.ntmps218 fun hb => ?_
 clear hb
 refine walkG ?_
 refine retX Tryz.results218 ?_
 exact .fnL .nil (.cons (.refP (es := [.sl 1 (l.map sPV)]) rfl rfl rfl rfl rfl) .nil)
theorem collect_told (l : List (List UInt8)) (hl : l.length ≤ 4294967296) : ToldM Tryz.prog 233 [.fn (.func 235) [] [.pp [.sl 1 (l.map sPV)]]] [] [some (sB l)] (.row 1000000 l.length) := by
 have h := appendSeq_told l hl
 unfold sB at h ⊢
 refine VC.toldXF (And.intro @sA_len @sA_sc) ent_233 [16] Tryz.func233 rfl Tryz.ntmps233 fun hb hbL => ?_
 clear hb hbL
 refine walkG ?_
 refine walkLF (@sA_ren) [] (h) ?_
 refine walkGF (And.intro @sA_ren @sA_len) ?_
 refine retXF (And.intro @sA_ren @sA_len) Tryz.results233 ?_
 exact .keepW rfl
theorem sorted_told (l : List (List UInt8)) (hl : l.length ≤ 4294967296) : ToldM Tryz.prog 217 [.fn (.func 235) [] [.pp [.sl 1 (l.map sPV)]]] [] [some (sB (srt l))] (.row 1000000 l.length) := by
 have h := collect_told l hl
 have h2 := sort_told l hl
 have hsl := srt_len l
 unfold sB at h h2 ⊢
 refine VC.toldXF (And.intro @sA_len (And.intro @sA_sc hsl)) ent_217 [16] Tryz.func217 rfl Tryz.ntmps217 fun hb hbL => ?_
 clear hb hbL
 refine walkG ?_
 refine walkLF (@sA_ren) [] (h) ?_
 refine walkGF (And.intro @sA_ren @sA_len) ?_
 refine walkLF (@sA_ren) [16] (h2) ?_
 refine walkGF (And.intro @sA_ren @sA_len) ?_
 refine retXF (And.intro @sA_ren @sA_len) Tryz.results217 ?_
 exact .keepW rfl
theorem keyed1_told (s : List UInt8) (hs : s.length ≤ 140737488355328) : Told Tryz.prog 219 [.c (.v (.string (str s)))] (.c (.v (.bool (!isRight s)))) := by
 have h := uright_told s (by omega)
 refine VC.toldP ent_219 Tryz.func219 rfl Tryz.ntmps219 fun hb => ?_
 clear hb
 refine walkGF (And.intro @str_size hs) ?_
 refine walkCF (@str_dl) (h) ?_
 refine walkG ?_
 refine retX Tryz.results219 ?_
 exact .c _
def jkeyed : JT → Bool
 | .mk k n s ks xs => if k ≠ 6 then ks.isEmpty else decide (ks.length = xs.length) && (decide ((Lib.compact (srt ks)).length = ks.length) && ks.all isRight)
theorem jkeyed_told (t : JT) (ht : t.sm 4294967296) : Told Tryz.prog 190 [t.av] (.c (.v (.bool (jkeyed t)))) := by
 cases t with
 | mk k n s ks xs =>
 obtain ⟨_, hk, hks, _, _⟩ := ht
 have hV := valuesS_told ks
 have hS := sorted_told ks hk
 have hC := compact_told (srt ks) (by rw [srt_len]; exact hk)
 have hF := cnfS_told (g := 219) (fs := []) (cs := []) rfl rfl ks (fun s => !isRight s) fun s hs => keyed1_told s (by have := hks s hs; omega)
 unfold sB at hS hC
 rw [srt_len] at hC
 refine VC.told ent_190 Tryz.func190 rfl Tryz.ntmps190 (by simp) rfl rfl fun hb => ?_
 clear hb
 refine walkGF (And.intro @JT.av_eq @cells_mk) ?_
 refine VC.cond (by rfl) (by trivial) (fun h6 => ?_) (fun h6 => ?_)
 · refine walkGF (@cells_mk) ?_
   refine retX Tryz.results190 ?_
   refine frz_c ?_
   simp only [bne_iff_ne] at h6
   simp only [jkeyed]
   rw [if_pos h6]
   cases ks <;> simp <;> omega
 · refine walkGF (@cells_mk) ?_
   refine walkC (hV) ?_
   refine walkG ?_
   refine walkLF (@sA_ren) [] (hS) ?_
   simp only [bne_eq_false_iff_eq] at h6
   subst h6
   by_cases hkx : ks.length = xs.length
   · have hg : ((ks.length : Int) == (xs.length : Int)) = true := by simp [hkx]
     refine walkGF (And.intro @sA_ren (And.intro @sA_len (And.intro @cells_mk hg))) ?_
     refine walkLF (And.intro @sA_ren (And.intro @sA_len @srt_len)) [64] (hC) ?_
     refine walkGF (And.intro @sA_ren (And.intro @sA_len (And.intro @cells_mk hg))) ?_
     refine walkDF (@cells_mk) (hF) ?_
     refine walkG ?_
     refine retX Tryz.results190 ?_
     refine frz_c ?_
     have e1 : (!ks.any fun s => !isRight s) = ks.all isRight := by rw [List.not_any_eq_all_not]; simp
     have e2 : (((Lib.compact (srt ks)).length : Int) == (ks.length : Int)) = decide ((Lib.compact (srt ks)).length = ks.length) := by
      rw [Bool.eq_iff_iff]
      simp
      omega
     rw [e1, e2]
     simp [jkeyed, hkx]
   · have hg : ((ks.length : Int) == (xs.length : Int)) = false := by simp; omega
     refine walkGF (And.intro @sA_ren (And.intro @sA_len (And.intro @cells_mk hg))) ?_
     refine retX Tryz.results190 ?_
     refine frz_c ?_
     simp [jkeyed, hkx]
end

theorem ixfJ_told {g : FuncId} {fs cs : List AV} (hp : AV.pureL fs = true) (hp' : AV.pureL cs = true) (l : List (JT)) (p : JT → Bool) (hk : ∀ x ∈ l, Told Tryz.prog g (fs ++ ([x.av] ++ cs)) (.c (.v (.bool (p x))))) :
  Told Tryz.prog 221 [.c (.sl 5 (l.map JT.cells)), .fn (.func g) fs cs] (.c (.v (.int .i64 (idxP p l)))) := by
 refine VC.told ent_221 Tryz.func221 rfl Tryz.ntmps221 (by simp) (by simp [AV.pureB, AV.pureL, hp, hp']) rfl fun hb => ?_
 simp only [List.mem_cons, List.not_mem_nil, or_false, forall_eq_or_imp, forall_eq, abd_c, pbd_sl, List.length_map] at hb
 have h1 := hb.1.1
 clear hb
 refine walkG ?_
 refine VC.loop (ι := {i : Nat // i ≤ l.length ∧ ∀ j x, j < i → l[j]? = some x → p x = false}) (fun i => [(0, .c (.sl 5 (l.map JT.cells))), (1, .fn (.func g) fs cs), (7, .c (.v (.int .i64 l.length))), (8, .c (.v (.int .i64 i.1)))]) (fun _ => []) 0 (fun i => l.length - i.1) ⟨0, Nat.zero_le _, by intro j x hj; omega⟩ ?_ ?_
 · simp only [sc_pureL hp, sc_pureL hp', Weak, eq_self, used_is, sc_any, sc_c, sc_pp, sc_ref, sc_row, sc_agg, sc_fn, ScL, some_imp, List.forall_mem_map, go_sem, Int.reduceBEq, Int.reduceLE, Int.reduceLT, Int.reduceNeg, Nat.reduceAdd, Nat.reduceEqDiff, Nat.reduceLT, Nat.reduceLeDiff, Nat.reduceMul, Nat.reduceSub, reduceCtorEq, ↓reduceIte]
   all_goals rfl
 rintro ⟨i, hi, ht⟩
 refine walkG ?_
 refine VC.cond (by rfl) (by trivial) (fun hc => ?_) (fun hc => ?_)
 · simp only [decide_eq_true_eq] at hc
   obtain ⟨x, hx⟩ : ∃ x, l[i]? = some x := ⟨l[i]'(by omega), List.getElem?_eq_getElem _⟩
   have hw : IntKind.i64.wrap ((i : Int) + 1) = (i : Int) + 1 := wrap64_id (by omega) (by omega)
   have hkx := hk x (List.mem_of_getElem? hx)
   (repeat (first | refine pass ?_ | refine VC.region (by rfl) (by rfl) ?_ | (refine AO.step fun K hK => ?_; simp only [List.getElem?_map, hx, JT.av, len_cells, take_cells, take_cellsC, go_sem, Int.reduceBEq, Int.reduceLE, Int.reduceLT, Int.reduceNeg, Nat.reduceAdd, Nat.reduceEqDiff, Nat.reduceLT, Nat.reduceLeDiff, Nat.reduceMul, Nat.reduceSub, reduceCtorEq, ↓reduceIte]; (first | refine gsel_skip ?_ | refine gsel_go ?_ | skip); (first | refine hK _ _ _ ?_ | refine ⟨by first | omega | exact ⟨_, rfl, rfl⟩ | exact fun _ => ⟨_, rfl, rfl⟩ | (intro h; simp only [List.getElem?_map, hx, JT.av, len_cells, take_cells, take_cellsC, h, true_and]; omega) | (clear hK; intro h; simp_all <;> omega), hK _ _ _ ?_⟩); clear hK K) | refine VC.draw mixP (by rfl) (by rfl) ?_ | refine ⟨okd_of (by kernel_rfl), ?_⟩ | refine BQ.other (by decide) ?_ | refine VC.seq ?_ | refine AO.nil ?_ | refine VC.block ?_))
   ((refine AO.step fun K hK => ?_; simp only [go_sem, Int.reduceBEq, Int.reduceLE, Int.reduceLT, Int.reduceNeg, Nat.reduceAdd, Nat.reduceEqDiff, Nat.reduceLT, Nat.reduceLeDiff, Nat.reduceMul, Nat.reduceSub, reduceCtorEq, ↓reduceIte, JT.av, len_cells, take_cells, take_cellsC, hp, hp', pureL_app, pureL_c, List.append_assoc]; (first | refine gsel_go ?_ | skip)); refine .inl ⟨_, hkx, hK _ _ _ ?_⟩; clear hK K)
   refine walkG ?_
   refine VC.cond (by rfl) (by trivial) (fun hpx => ?_) (fun hpx => ?_)
   · have hr := idxP_at hx hpx ht
     refine walkG ?_
     refine retX Tryz.results221 ?_
     rw [hr]
     exact .c _
   · refine walkGF (hw) ?_
     refine .next ⟨i + 1, by omega, fun j y hj hy => ?_⟩ ?_ (by simp only []; omega)
     · rcases Nat.lt_or_ge j i with h | h
       · exact ht j y h hy
       · obtain rfl : j = i := by omega
         rw [hx] at hy
         obtain rfl := Option.some.inj hy
         exact hpx
     simp only [sc_pureL hp, sc_pureL hp', Weak, eq_self, used_is, sc_any, sc_c, sc_pp, sc_ref, sc_row, sc_agg, sc_fn, ScL, some_imp, List.forall_mem_map, go_sem, Int.reduceBEq, Int.reduceLE, Int.reduceLT, Int.reduceNeg, Nat.reduceAdd, Nat.reduceEqDiff, Nat.reduceLT, Nat.reduceLeDiff, Nat.reduceMul, Nat.reduceSub, reduceCtorEq, ↓reduceIte]
     exact cI (by omega)
 · simp only [decide_eq_false_iff_not] at hc
   obtain rfl : i = l.length := by omega
   have hr := idxP_none ht
   refine walkG ?_
   refine retX Tryz.results221 ?_
   rw [hr]
   exact .c _
theorem cnfJ_told {g : FuncId} {fs cs : List AV} (hp : AV.pureL fs = true) (hp' : AV.pureL cs = true) (l : List (JT)) (p : JT → Bool) (hk : ∀ x ∈ l, Told Tryz.prog g (fs ++ ([x.av] ++ cs)) (.c (.v (.bool (p x))))) :
  Told Tryz.prog 191 [.c (.sl 5 (l.map JT.cells)), .fn (.func g) fs cs] (.c (.v (.bool (l.any p)))) := by
 have hi := ixfJ_told hp hp' l p hk
 refine VC.told ent_191 Tryz.func191 rfl Tryz.ntmps191 (by simp) (by simp [AV.pureB, AV.pureL, hp, hp']) rfl fun hb => ?_
 clear hb
 refine walkG ?_
 refine walkCF (And.intro hp hp') (hi) ?_
 refine walkG ?_
 refine retX Tryz.results191 ?_
 exact frz_c (by rw [idxP_any])

def JT.kids : JT → List JT
 | .mk _ _ _ _ xs => xs
mutual
theorem sm_le {N M : Nat} (h : N ≤ M) : ∀ t : JT, t.sm N → t.sm M
 | .mk k n s ks xs => fun ⟨h1, h2, h3, h4, h5⟩ => ⟨Nat.le_trans h1 h, Nat.le_trans h2 h, fun y hy => Nat.le_trans (h3 y hy) h, Nat.le_trans h4 h, smL_le h xs h5⟩
theorem smL_le {N M : Nat} (h : N ≤ M) : ∀ xs : List JT, JT.smL N xs → JT.smL M xs
 | [] => fun _ => trivial
 | x :: xs => fun hx => ⟨sm_le h x hx.1, smL_le h xs hx.2⟩
end
mutual
def jright (d : Nat) : JT → Bool
 | .mk k n s ks xs => jbare (.mk k n s ks xs) && jkeyed (.mk k n s ks xs) && !(decide (32 ≤ d) && (decide (k = 5) || decide (k = 6))) && jrights (d + 1) xs
def jrights (d : Nat) : List JT → Bool
 | [] => true
 | x :: xs => jright d x && jrights d xs
end
theorem jrights_any (d : Nat) : ∀ xs : List JT, (!xs.any fun x => !jright d x) = jrights d xs
 | [] => rfl
 | x :: xs => by rw [jrights, ← jrights_any d xs]; simp
theorem right1_told {x : JT} {z : Int} {b : Bool} (h0 : 0 ≤ z) (h1 : z ≤ 32) (h : Told Tryz.prog 150 [x.av, .c (.v (.int .i64 (z + 1)))] (.c (.v (.bool b)))) : Told Tryz.prog 192 [x.av, .pp [.v (.int .i64 z)]] (.c (.v (.bool (!b)))) := by
 have hw : IntKind.i64.wrap (z + 1) = z + 1 := wrap64_id (by omega) (by omega)
 refine VC.told ent_192 Tryz.func192 rfl Tryz.ntmps192 (by simp) (by simp [AV.pureB, AV.pureL, JT.av, pureL_c]) rfl fun hb => ?_
 clear hb
 refine walkGF (And.intro @JT.av_eq (And.intro @len_cells (And.intro @take_cells (And.intro @take_cellsC hw)))) ?_
 refine walkCF (And.intro @JT.av_eq (And.intro @len_cells (And.intro @take_cells (And.intro @take_cellsC (And.intro hw @pureL_c))))) (h) ?_
 refine walkG ?_
 refine retX Tryz.results192 ?_
 exact .c _
theorem bare_kids {k n : Int} {s : List UInt8} {ks : List (List UInt8)} {xs : List JT} (h : jbare (.mk k n s ks xs) = true) (h5 : k ≠ 5) (h6 : k ≠ 6) : xs = [] := by
 rw [jbare] at h
 split at h
 · simp at h; exact h.2
 · split at h
   · simp at h; exact h.2
   · split at h
     · simp at h; exact h.2
     · split at h
       · simp at h; exact h.1.2
       · rw [if_neg (by simp [h5, h6])] at h
         exact absurd h (by simp)
theorem right_told : ∀ (m : Nat) (t : JT), SizeOf.sizeOf t ≤ m → t.sm 4294967296 → ∀ (d : Nat) (z : Int), d ≤ 32 → z = (d : Int) → Told Tryz.prog 150 [t.av, .c (.v (.int .i64 z))] (.c (.v (.bool (jright d t)))) := by
 intro m
 induction m with
 | zero => intro t ht; cases t; simp at ht
 | succ m ih =>
 intro t ht hsm d z hd hz
 have hB := jbare_told t (sm_le (by omega) t hsm)
 have hKy := jkeyed_told t hsm
 have hx : ∀ x ∈ t.kids, Told Tryz.prog 150 [x.av, .c (.v (.int .i64 (z + 1)))] (.c (.v (.bool (jright (d + 1) x)))) ∨ 32 ≤ d := by
  intro x hx
  by_cases h32 : 32 ≤ d
  · exact .inr h32
  · cases t with
    | mk k n s ks xs => exact .inl (ih x (by have := List.sizeOf_lt_of_mem (show x ∈ xs from hx); simp at ht; omega) (smL_mem hsm.2.2.2.2 x hx) (d + 1) (z + 1) (by omega) (by omega))
 clear ih ht hsm
 obtain ⟨V, hV⟩ : ∃ V, V = jright d t := ⟨_, rfl⟩
 rw [← hV]
 cases t with
 | mk k n s ks xs =>
 rw [jright] at hV
 replace hx : ∀ x ∈ xs, _ := hx
 obtain ⟨b1, hb1⟩ : ∃ b1, b1 = jbare (.mk k n s ks xs) := ⟨_, rfl⟩
 obtain ⟨b2, hb2⟩ : ∃ b2, b2 = jkeyed (.mk k n s ks xs) := ⟨_, rfl⟩
 rw [← hb1] at hB hV
 rw [← hb2] at hKy hV
 simp only [JT.av, cells_mk, List.map_cons, List.map_nil] at hB hKy
 refine VC.told ent_150 Tryz.func150 rfl Tryz.ntmps150 (by simp) rfl rfl fun hb => ?_
 clear hb
 refine walkGF (And.intro @JT.av_eq @cells_mk) ?_
 refine walkCF (And.intro @JT.av_eq @cells_mk) (hB) ?_
 refine walkGF (And.intro @JT.av_eq @cells_mk) ?_
 refine walkDF (And.intro @JT.av_eq @cells_mk) (hKy) ?_
 refine walkGF (And.intro @JT.av_eq @cells_mk) ?_
 refine VC.cond (by rfl) (by trivial) (fun hc => ?_) (fun hc => ?_)
 · have hVf : V = false := by
    rw [hV]
    cases b1 <;> cases b2 <;> simp_all
    omega
   rw [hVf]
   refine walkG ?_
   refine retX Tryz.results150 ?_
   exact .c _
 · have hb12 : b1 = true ∧ b2 = true ∧ (32 ≤ d → k ≠ 5 ∧ k ≠ 6) := by
    cases b1 <;> cases b2 <;> simp_all
    intro h32
    exact hc (by omega)
   obtain ⟨rfl, rfl, hk56⟩ := hb12
   have hx2 : ∀ x ∈ xs, Told Tryz.prog 150 [x.av, .c (.v (.int .i64 (z + 1)))] (.c (.v (.bool (jright (d + 1) x)))) := by
    intro x hxm
    rcases hx x hxm with h | h
    · exact h
    · obtain ⟨h5, h6⟩ := hk56 h
      rw [bare_kids hb1.symm h5 h6] at hxm
      simp at hxm
   have hVt : V = jrights (d + 1) xs := by
    rw [hV]
    by_cases h32 : 32 ≤ d
    · obtain ⟨h5, h6⟩ := hk56 h32
      simp [h5, h6]
    · simp [h32]
   have hF := cnfJ_told (g := 192) (fs := []) (cs := [.pp [.v (.int .i64 z)]]) rfl rfl xs (fun x => !jright (d + 1) x) fun x hxm => right1_told (by omega) (by omega) (hx2 x hxm)
   refine VC.skip ?_; refine SQ.normal ?_
   refine VC.frz [8] [(2, .ref 0 1 0 0), (3, .pp [.v (.int .i64 z)])] [(0, ⟨false, 36, 5, [(JT.mk k n s ks xs).cells.map .c]⟩)] 400 ?_ ?_
   · simp only [cells_mk, WeakF, used_is, sc_any, sc_c, sc_pp, sc_ref, sc_row, sc_agg, sc_fn, ScL, some_imp, List.forall_mem_map, go_sem, Int.reduceBEq, Int.reduceLE, Int.reduceLT, Int.reduceNeg, Nat.reduceAdd, Nat.reduceEqDiff, Nat.reduceLT, Nat.reduceLeDiff, Nat.reduceMul, Nat.reduceSub, reduceCtorEq, ↓reduceIte]
     exact ⟨⟨.same _, .ref (es := [.v (.int .i64 z)]) (by simp) rfl rfl rfl rfl⟩, .same _⟩
   refine walkGF (@cells_mk) ?_
   refine walkCF (@cells_mk) (hF) ?_
   refine walkG ?_
   refine retX Tryz.results150 ?_
   rw [hVt, ← jrights_any]
   exact .c _
def jR (t : JT) : Bool := jright 0 t
theorem jRight_told (t : JT) (ht : t.sm 4294967296) : Told Tryz.prog 100 [t.av] (.c (.v (.bool (jR t)))) := by
 have h := right_told _ t (Nat.le_refl _) ht 0 0 (by omega) rfl
 refine VC.told ent_100 Tryz.func100 rfl Tryz.ntmps100 (by simp) (by simp [AV.pureB, AV.pureL, JT.av, pureL_c]) rfl fun hb => ?_
 clear hb
 refine walkGF (And.intro @JT.av_eq (And.intro @len_cells (And.intro @take_cells @take_cellsC))) ?_
 refine walkCF (And.intro @JT.av_eq (And.intro @len_cells (And.intro @take_cells (And.intro @take_cellsC @pureL_c)))) (h) ?_
 refine walkG ?_
 refine retX Tryz.results100 ?_
 exact .c _

theorem nodup_of {ks : List (List UInt8)} (h : (Lib.compact (srt ks)).length = ks.length) : ks.Nodup := by
 have hperm : (srt ks).Perm ks := List.mergeSort_perm ks _
 have hlen := srt_len ks
 have hsort : (srt ks).Pairwise fun a b => a ≤ b := by
  have := List.pairwise_mergeSort (le := fun x y : List UInt8 => decide (x ≤ y)) (fun a b c h1 h2 => by simp only [decide_eq_true_eq] at h1 h2 ⊢; exact List.le_trans h1 h2) (fun a b => by simp only [Bool.or_eq_true, decide_eq_true_eq]; exact List.le_total a b) ks
  exact this.imp fun h => by simpa using h
 generalize srt ks = L at h hperm hlen hsort
 refine hperm.nodup_iff.1 ?_
 have hk : ∀ j, j < L.length → Lib.keeps L.toArray j = true := by
  rw [← hlen] at h
  unfold Lib.compact Lib.compactUpTo at h
  rw [List.length_map] at h
  have h2 : ((List.range L.length).filter (Lib.keeps L.toArray)).length = (List.range L.length).length := by rw [h, List.length_range]
  intro j hj
  exact List.length_filter_eq_length_iff.1 h2 j (List.mem_range.2 hj)
 rw [List.nodup_iff_pairwise_ne, List.pairwise_iff_getElem]
 intro i j hi hj hij heq
 have h1 := List.pairwise_iff_getElem.1 hsort
 have hk1 := hk (i + 1) (by omega)
 have hle1 := h1 i (i + 1) hi (by omega) (by omega)
 have hle2 : L[i + 1]'(by omega) ≤ L[j] := by
  rcases Nat.lt_or_ge (i + 1) j with h2 | h2
  · exact h1 (i + 1) j (by omega) hj h2
  · have : i + 1 = j := by omega
    subst this
    exact List.le_refl _
 rw [← heq] at hle2
 have he := List.le_antisymm hle1 hle2
 unfold Lib.keeps at hk1
 have g1 : L.toArray[i + 1]! = L[i + 1]'(by omega) := by simp [show i + 1 < L.length by omega]
 have g2 : L.toArray[i + 1 - 1]! = L[i] := by simp [hi]
 rw [g1, g2, he] at hk1
 simp at hk1
theorem compact_nodup {ks : List (List UInt8)} (h : ks.Nodup) : (Lib.compact (srt ks)).length = ks.length := by
 have hperm : (srt ks).Perm ks := List.mergeSort_perm ks _
 have hlen := srt_len ks
 have hnd := hperm.nodup_iff.2 h
 generalize srt ks = L at hperm hlen hnd ⊢
 have hk : ∀ j, j < L.length → Lib.keeps L.toArray j = true := by
  intro j hj
  unfold Lib.keeps
  by_cases h0 : j = 0
  · simp [h0]
  · have g1 : L.toArray[j]! = L[j] := by simp [hj]
    have g2 : L.toArray[j - 1]! = L[j - 1]'(by omega) := by simp [show j - 1 < L.length by omega]
    rw [g1, g2]
    have := List.pairwise_iff_getElem.1 (List.nodup_iff_pairwise_ne.1 hnd) (j - 1) j (by omega) hj (by omega)
    exact decide_eq_true (.inr fun e => this e.symm)
 unfold Lib.compact Lib.compactUpTo
 rw [List.length_map, List.length_filter_eq_length_iff.2 fun j hj => hk j (List.mem_range.1 hj), List.length_range, hlen]

def rfail : JT → Bool
 | .mk k n s ks xs => decide (k < 1) || decide (k > 6) || (decide (k ≠ 2) && decide (k ≠ 3) && decide (n ≠ 0)) || (decide (k = 2) && decide (n ≠ 0) && decide (n ≠ 1)) || (decide (k ≠ 4) && !s.isEmpty) || !isRight s
   || (decide (k < 5) && !xs.isEmpty) || (decide (k ≠ 6) && !ks.isEmpty) || (decide (k = 6) && decide (ks.length ≠ xs.length))
mutual
def rshape : JT → Bool
 | .mk k n s ks xs => !rfail (.mk k n s ks xs) && (ks.all isRight && decide ks.Nodup) && rshapes xs
def rshapes : List JT → Bool
 | [] => true
 | x :: xs => rshape x && rshapes xs
end
theorem right_empty : isRight [] = true := by decide +kernel
theorem deeps_le (m : Nat) : ∀ (xs : List JT) (n : Nat), tdeeps n xs ≤ m ↔ n ≤ m ∧ ∀ x ∈ xs, 1 + tdeep x ≤ m
 | [], n => by simp [tdeeps]
 | x :: xs, n => by
   rw [tdeeps, deeps_le m xs]
   simp only [List.mem_cons, forall_eq_or_imp]
   constructor
   · rintro ⟨h1, h2⟩; exact ⟨by omega, by omega, h2⟩
   · rintro ⟨h1, h2, h3⟩; exact ⟨by omega, h3⟩
theorem keyed_iff {k n : Int} {s : List UInt8} {ks : List (List UInt8)} {xs : List JT} : jkeyed (.mk k n s ks xs) = ((if k ≠ 6 then ks.isEmpty else decide (ks.length = xs.length)) && (ks.all isRight && decide ks.Nodup)) := by
 rw [jkeyed]
 by_cases h6 : k = 6
 · rw [if_neg (by simp [h6]), if_neg (by simp [h6])]
   have : decide ((Lib.compact (srt ks)).length = ks.length) = decide ks.Nodup := by
    rw [Bool.eq_iff_iff]
    simp only [decide_eq_true_eq]
    exact ⟨nodup_of, compact_nodup⟩
   rw [this, Bool.and_comm (ks.all isRight)]
 · rw [if_pos h6, if_pos h6]
   cases ks with
   | nil => simp
   | cons y ks => simp
theorem bare_iff (k n : Int) (s : List UInt8) (ks : List (List UInt8)) (xs : List JT) : (jbare (.mk k n s ks xs) && (if k ≠ 6 then ks.isEmpty else decide (ks.length = xs.length))) = !rfail (.mk k n s ks xs) := by
 rw [Bool.eq_iff_iff]
 unfold rfail
 rw [jbare]
 have hr := right_empty
 by_cases h1 : k = 1
 · subst h1; cases s <;> cases xs <;> cases ks <;> simp [hr]
 by_cases h2 : k = 2
 · subst h2; cases s <;> cases xs <;> cases ks <;> simp [hr]
   all_goals omega
 by_cases h3 : k = 3
 · subst h3; cases s <;> cases xs <;> cases ks <;> simp [hr]
 by_cases h4 : k = 4
 · subst h4; cases s <;> cases xs <;> cases ks <;> simp [hr]
 by_cases h5 : k = 5
 · subst h5; cases s <;> cases xs <;> cases ks <;> simp [hr]
 by_cases h6 : k = 6
 · subst h6; cases s <;> cases xs <;> cases ks <;> simp [hr]
 · have : k < 1 ∨ k > 6 := by omega
   simp [h1, h2, h3, h4, h5, h6, this]
   omega
mutual
theorem right_shape (d : Nat) (hd : d ≤ 32) : ∀ t : JT, jright d t = (decide (d + tdeep t ≤ 32) && rshape t)
 | .mk k n s ks xs => by
   rw [jright, rshape, keyed_iff, ← bare_iff, tdeep]
   by_cases hb : jbare (.mk k n s ks xs) = true
   · by_cases h56 : k = 5 ∨ k = 6
     · rw [if_pos h56]
       by_cases h32 : d = 32
       · subst h32
         have := (deeps_le 0 xs 1)
         have h1 : ¬ 32 + tdeeps 1 xs ≤ 32 := by
          intro h
          have := (deeps_le 0 xs 1).1 (by omega)
          omega
         rw [Bool.eq_iff_iff]
         simp [h1]
         omega
       · rw [rights_shapes (d + 1) (by omega) xs]
         have h2 : decide (d + tdeeps 1 xs ≤ 32) = (xs.all fun x => decide (d + 1 + tdeep x ≤ 32)) := by
          rw [Bool.eq_iff_iff]
          simp only [decide_eq_true_eq, List.all_eq_true]
          have := deeps_le (32 - d) xs 1
          constructor
          · intro h x hx
            have := (this.1 (by omega)).2 x hx
            omega
          · intro h
            have := this.2 ⟨by omega, fun x hx => by have := h x hx; omega⟩
            omega
         have h3 : decide (32 ≤ d) = false := by simp; omega
         rw [h2, hb, h3]
         simp only [Bool.false_and, Bool.not_false, Bool.and_true, Bool.true_and]
         generalize (xs.all fun x => decide (d + 1 + tdeep x ≤ 32)) = A
         generalize ((if k ≠ 6 then ks.isEmpty else decide (ks.length = xs.length)) && (ks.all isRight && decide ks.Nodup)) = Z
         cases A <;> cases Z <;> simp
     · rw [if_neg h56, bare_kids hb (fun h => h56 (.inl h)) (fun h => h56 (.inr h))]
       have h5 : decide (k = 5) = false := by simp; exact fun h => h56 (.inl h)
       have h6 : decide (k = 6) = false := by simp; exact fun h => h56 (.inr h)
       rw [h5, h6]
       simp [jrights, rshapes, hd, Bool.and_assoc]
   · simp [hb]
theorem rights_shapes (d : Nat) (hd : d ≤ 32) : ∀ xs : List JT, jrights d xs = ((xs.all fun x => decide (d + tdeep x ≤ 32)) && rshapes xs)
 | [] => rfl
 | x :: xs => by
   rw [jrights, rshapes, right_shape d hd x, rights_shapes d hd xs, List.all_cons]
   cases decide (d + tdeep x ≤ 32) <;> cases rshape x <;> simp
end
theorem jR_shape (t : JT) : jR t = (decide (tdeep t ≤ 32) && rshape t) := by
 unfold jR
 rw [right_shape 0 (by omega) t, Nat.zero_add]

theorem taken_next {α : Type} [DecidableEq α] {ks ls : List α} {i : Nat} {x y : α} (hx : ks[i]? = some x) (hy : ls[i]? = some y) (ht : ks.take i = ls.take i) : ks.take (i + 1) = ls.take (i + 1) ↔ x = y := by
 rw [List.take_add_one, List.take_add_one, hx, hy, ht]
 simp
theorem sequal_told (ks ls : List (List UInt8)) : Told Tryz.prog 48 [.c (.sl 1 (ks.map sPV)), .c (.sl 1 (ls.map sPV))] (.c (.v (.bool (ks == ls)))) := by
 refine VC.told ent_48 Tryz.func48 rfl Tryz.ntmps48 (by simp) rfl rfl fun hb => ?_
 simp only [abd_c, pbd_sl, List.mem_cons, List.not_mem_nil, or_false, forall_eq_or_imp, forall_eq, List.length_map] at hb
 have h1 := hb.1.1
 have h2 := hb.2.1
 clear hb
 refine walkG ?_
 refine VC.cond (by rfl) (by trivial) (fun hc => ?_) (fun hc => ?_)
 · have hne : (ks == ls) = false := by
    rw [beq_eq_false_iff_ne]
    intro e
    subst e
    simp at hc
   refine walkG ?_
   refine ⟨.inr rfl, ?_⟩
   rw [Tryz.results48, hne]
   simp only [resOk, resV, go_sem, simprocAttr]
   exact .c _
 · have hlen : ks.length = ls.length := by
    simp at hc
    omega
   refine walkG ?_
   refine VC.loop (ι := {i : Nat // i ≤ ks.length ∧ ks.take i = ls.take i}) (fun i => [(0, .c (.sl 1 (ks.map sPV))), (1, .c (.sl 1 (ls.map sPV))), (12, .c (.v (.int .i64 ks.length))), (13, .c (.v (.int .i64 i.1)))]) (fun _ => []) 0 (fun i => ks.length - i.1) ⟨0, Nat.zero_le _, rfl⟩ ?_ ?_
   · simp only [Weak, eq_self, used_is, sc_any, sc_c, sc_pp, sc_ref, sc_row, sc_agg, sc_fn, ScL, some_imp, List.forall_mem_map, go_sem, Int.reduceBEq, Int.reduceLE, Int.reduceLT, Int.reduceNeg, Nat.reduceAdd, Nat.reduceEqDiff, Nat.reduceLT, Nat.reduceLeDiff, Nat.reduceMul, Nat.reduceSub, reduceCtorEq, ↓reduceIte]
     all_goals rfl
   rintro ⟨i, hi, ht⟩
   refine walkG ?_
   refine VC.cond (by rfl) (by trivial) (fun hc => ?_) (fun hc => ?_)
   · simp only [decide_eq_true_eq] at hc
     obtain ⟨x, hx⟩ : ∃ x, ks[i]? = some x := ⟨ks[i], List.getElem?_eq_getElem (by omega)⟩
     obtain ⟨y, hy⟩ : ∃ y, ls[i]? = some y := ⟨ls[i], List.getElem?_eq_getElem (by omega)⟩
     have hw : IntKind.i64.wrap ((i : Int) + 1) = (i : Int) + 1 := wrap64_id (by omega) (by omega)
     have htn := taken_next hx hy ht
     (repeat (first | refine pass ?_ | refine VC.region (by rfl) (by rfl) ?_ | (refine AO.step fun K hK => ?_; simp only [List.getElem?_map, hx, hy, sPV, str_toList, go_sem, Int.reduceBEq, Int.reduceLE, Int.reduceLT, Int.reduceNeg, Nat.reduceAdd, Nat.reduceEqDiff, Nat.reduceLT, Nat.reduceLeDiff, Nat.reduceMul, Nat.reduceSub, reduceCtorEq, ↓reduceIte]; (first | refine gsel_skip ?_ | refine gsel_go ?_ | skip); (first | refine hK _ _ _ ?_ | refine ⟨by first | omega | exact ⟨_, rfl, rfl⟩ | exact fun _ => ⟨_, rfl, rfl⟩ | (intro h; simp only [List.getElem?_map, hx, hy, sPV, str_toList, h, true_and]; omega) | (clear hK; intro h; simp_all <;> omega), hK _ _ _ ?_⟩); clear hK K) | refine VC.draw mixP (by rfl) (by rfl) ?_ | refine ⟨okd_of (by kernel_rfl), ?_⟩ | refine BQ.other (by decide) ?_ | refine VC.seq ?_ | refine AO.nil ?_ | refine VC.block ?_))
     refine VC.cond (by rfl) (by trivial) (fun hc2 => ?_) (fun hc2 => ?_)
     · have hne : (ks == ls) = false := by
        rw [beq_eq_false_iff_ne]
        intro e
        subst e
        rw [hx] at hy
        obtain rfl := Option.some.inj hy
        simp at hc2
       refine walkG ?_
       refine ⟨.inr rfl, ?_⟩
       rw [Tryz.results48, hne]
       simp only [resOk, resV, go_sem, simprocAttr]
       exact .c _
     · have hxy : x = y := by simpa using hc2
       refine walkGF (hw) ?_
       refine .next ⟨i + 1, by omega, htn.2 hxy⟩ ?_ (by simp only []; omega)
       refine weakX ?_
       exact cI (by omega)
   · simp only [decide_eq_false_iff_not] at hc
     obtain rfl : i = ks.length := by omega
     have heq : (ks == ls) = true := by
      rw [List.take_length, hlen, List.take_length] at ht
      simp [ht]
     refine walkG ?_
     refine ⟨.inr rfl, ?_⟩
     rw [Tryz.results48, heq]
     simp only [resOk, resV, go_sem, simprocAttr]
     exact .c _
noncomputable def jeq (a b : JT) : Bool := @decide (a = b) (Classical.propDecidable _)
theorem jeq_iff (a b : JT) : jeq a b = true ↔ a = b := by simp [jeq]
theorem jeq_false (a b : JT) : jeq a b = false ↔ a ≠ b := by simp [jeq]
theorem jeq_self (a : JT) : jeq a a = true := (jeq_iff a a).2 rfl
noncomputable def jeqL (a b : List JT) : Bool := @decide (a = b) (Classical.propDecidable _)
theorem jeqL_iff (a b : List JT) : jeqL a b = true ↔ a = b := by simp [jeqL]
theorem jeqL_false (a b : List JT) : jeqL a b = false ↔ a ≠ b := by simp [jeqL]
theorem jeq_mk (k n k' n' : Int) (s s' : List UInt8) (ks ks' : List (List UInt8)) (xs xs' : List JT) : jeq (.mk k n s ks xs) (.mk k' n' s' ks' xs') = ((((k == k' && n == n') && s == s') && ks == ks') && jeqL xs xs') := by
 rw [Bool.eq_iff_iff]
 simp only [jeq_iff, Bool.and_eq_true, beq_iff_eq, jeqL_iff, JT.mk.injEq]
 constructor
 · rintro ⟨rfl, rfl, rfl, rfl, rfl⟩; simp
 · rintro ⟨⟨⟨⟨rfl, rfl⟩, rfl⟩, rfl⟩, rfl⟩; simp
theorem eqfunc_told (xs ys : List JT) (hcall : ∀ x ∈ xs, ∀ y, Told Tryz.prog 76 [x.av, y.av] (.c (.v (.bool (jeq x y))))) :
  Told Tryz.prog 138 [.c (.sl 5 (xs.map JT.cells)), .c (.sl 5 (ys.map JT.cells)), .fn (.func 76) [] []] (.c (.v (.bool (jeqL xs ys)))) := by
 refine VC.told ent_138 Tryz.func138 rfl Tryz.ntmps138 (by simp) rfl rfl fun hb => ?_
 simp only [abd_c, pbd_sl, List.mem_cons, List.not_mem_nil, or_false, forall_eq_or_imp, forall_eq, List.length_map] at hb
 have h1 := hb.1.1
 have h2 := hb.2.1.1
 clear hb
 refine walkG ?_
 refine VC.cond (by rfl) (by trivial) (fun hc => ?_) (fun hc => ?_)
 · have hne : jeqL xs ys = false := by
    rw [jeqL_false]
    intro e
    subst e
    simp at hc
   refine walkG ?_
   refine ⟨.inr rfl, ?_⟩
   rw [Tryz.results138, hne]
   simp only [resOk, resV, go_sem, simprocAttr]
   exact .c _
 · have hlen : xs.length = ys.length := by
    simp at hc
    omega
   refine walkG ?_
   refine VC.loop (ι := {i : Nat // i ≤ xs.length ∧ xs.take i = ys.take i}) (fun i => [(1, .c (.sl 5 (ys.map JT.cells))), (2, .fn (.func 76) [] []), (15, .c (.sl 5 (xs.map JT.cells))), (16, .c (.v (.int .i64 xs.length))), (17, .c (.v (.int .i64 i.1)))]) (fun _ => []) 0 (fun i => xs.length - i.1) ⟨0, Nat.zero_le _, rfl⟩ ?_ ?_
   · simp only [Weak, eq_self, used_is, sc_any, sc_c, sc_pp, sc_ref, sc_row, sc_agg, sc_fn, ScL, some_imp, List.forall_mem_map, go_sem, Int.reduceBEq, Int.reduceLE, Int.reduceLT, Int.reduceNeg, Nat.reduceAdd, Nat.reduceEqDiff, Nat.reduceLT, Nat.reduceLeDiff, Nat.reduceMul, Nat.reduceSub, reduceCtorEq, ↓reduceIte]
     all_goals rfl
   rintro ⟨i, hi, ht⟩
   refine walkG ?_
   refine VC.cond (by rfl) (by trivial) (fun hc => ?_) (fun hc => ?_)
   · simp only [decide_eq_true_eq] at hc
     obtain ⟨x, hx⟩ : ∃ x, xs[i]? = some x := ⟨xs[i], List.getElem?_eq_getElem (by omega)⟩
     obtain ⟨y, hy⟩ : ∃ y, ys[i]? = some y := ⟨ys[i], List.getElem?_eq_getElem (by omega)⟩
     have hw : IntKind.i64.wrap ((i : Int) + 1) = (i : Int) + 1 := wrap64_id (by omega) (by omega)
     have hcl := hcall x (List.mem_of_getElem? hx) y
     (repeat (first | refine pass ?_ | refine VC.region (by rfl) (by rfl) ?_ | (refine AO.step fun K hK => ?_; simp only [List.getElem?_map, hx, hy, len_cells, take_cells, take_cellsC, go_sem, Int.reduceBEq, Int.reduceLE, Int.reduceLT, Int.reduceNeg, Nat.reduceAdd, Nat.reduceEqDiff, Nat.reduceLT, Nat.reduceLeDiff, Nat.reduceMul, Nat.reduceSub, reduceCtorEq, ↓reduceIte]; (first | refine gsel_skip ?_ | refine gsel_go ?_ | skip); (first | refine hK _ _ _ ?_ | refine ⟨by first | omega | exact ⟨_, rfl, rfl⟩ | exact fun _ => ⟨_, rfl, rfl⟩ | (intro h; simp only [List.getElem?_map, hx, hy, len_cells, take_cells, take_cellsC, h, true_and]; omega) | (clear hK; intro h; simp_all <;> omega), hK _ _ _ ?_⟩); clear hK K) | refine VC.draw mixP (by rfl) (by rfl) ?_ | refine ⟨okd_of (by kernel_rfl), ?_⟩ | refine BQ.other (by decide) ?_ | refine VC.seq ?_ | refine AO.nil ?_ | refine VC.block ?_))
     (refine AO.step fun K hK => ?_; simp only [go_sem, Int.reduceBEq, Int.reduceLE, Int.reduceLT, Int.reduceNeg, Nat.reduceAdd, Nat.reduceEqDiff, Nat.reduceLT, Nat.reduceLeDiff, Nat.reduceMul, Nat.reduceSub, reduceCtorEq, ↓reduceIte, pureL_c]; (first | refine gsel_go ?_ | skip))
     refine .inl ⟨_, hcl, hK _ _ _ ?_⟩
     clear hK K
     refine walkG ?_
     refine VC.cond (by rfl) (by trivial) (fun hc2 => ?_) (fun hc2 => ?_)
     · have hne : jeqL xs ys = false := by
        rw [jeqL_false]
        intro e
        subst e
        rw [hx] at hy
        obtain rfl := Option.some.inj hy
        rw [jeq_self] at hc2
        simp at hc2
       refine walkG ?_
       refine ⟨.inr rfl, ?_⟩
       rw [Tryz.results138, hne]
       simp only [resOk, resV, go_sem, simprocAttr]
       exact .c _
     · have hxy : x = y := by
        rw [← jeq_iff]
        simpa using hc2
       refine walkGF (hw) ?_
       refine .next ⟨i + 1, by omega, ?_⟩ ?_ (by simp only []; omega)
       · rw [List.take_add_one, List.take_add_one, hx, hy, ht, hxy]
       refine weakX ?_
       exact cI (by omega)
   · simp only [decide_eq_false_iff_not] at hc
     obtain rfl : i = xs.length := by omega
     have heq : jeqL xs ys = true := by
      rw [List.take_length, hlen, List.take_length] at ht
      rw [jeqL_iff, ht]
     refine walkG ?_
     refine ⟨.inr rfl, ?_⟩
     rw [Tryz.results138, heq]
     simp only [resOk, resV, go_sem, simprocAttr]
     exact .c _
theorem same_told : ∀ (m : Nat) (a b : JT), SizeOf.sizeOf a ≤ m → Told Tryz.prog 76 [a.av, b.av] (.c (.v (.bool (jeq a b)))) := by
 intro m
 induction m with
 | zero => intro a b ha; cases a; simp at ha
 | succ m ih =>
 intro a b ha
 cases a with
 | mk k n s ks xs =>
 cases b with
 | mk k' n' s' ks' xs' =>
 refine VC.told ent_76 Tryz.func76 rfl Tryz.ntmps76 (by simp) rfl rfl fun hb => ?_
 clear hb
 simp only [JT.av, cells_mk, List.map_cons, List.map_nil]
 have hE := eqfunc_told xs xs' fun x hx y => ih x y (by
  have h1 := List.sizeOf_lt_of_mem hx
  simp at ha
  omega)
 refine walkGF (@str_toList) ?_
 (refine AO.step fun K hK => ?_; simp only [go_sem, Int.reduceBEq, Int.reduceLE, Int.reduceLT, Int.reduceNeg, Nat.reduceAdd, Nat.reduceEqDiff, Nat.reduceLT, Nat.reduceLeDiff, Nat.reduceMul, Nat.reduceSub, reduceCtorEq, ↓reduceIte]; (first | refine gsel_go ?_ | skip))
 refine .inl ⟨_, fun _ => sequal_told ks ks', hK _ _ _ ?_⟩
 clear hK K
 refine walkG ?_
 (refine AO.step fun K hK => ?_; simp only [go_sem, Int.reduceBEq, Int.reduceLE, Int.reduceLT, Int.reduceNeg, Nat.reduceAdd, Nat.reduceEqDiff, Nat.reduceLT, Nat.reduceLeDiff, Nat.reduceMul, Nat.reduceSub, reduceCtorEq, ↓reduceIte]; (first | refine gsel_go ?_ | skip))
 refine .inl ⟨_, fun _ => hE, hK _ _ _ ?_⟩
 clear hK K
 refine walkG ?_
 refine ⟨.inr rfl, ?_⟩
 rw [Tryz.results76]
 simp only [resOk, resV, go_sem, simprocAttr]
 rw [jeq_mk]
 exact .c _

/-! Names. -/
def isLet (c : UInt8) : Bool := (decide (97 ≤ c.toNat) && decide (c.toNat ≤ 122)) || ((decide (65 ≤ c.toNat) && decide (c.toNat ≤ 90)) || decide (c.toNat = 95))
def isDig (c : UInt8) : Bool := decide (48 ≤ c.toNat) && decide (c.toNat ≤ 57)
def simp1 : List UInt8 → Bool
 | [] => false
 | c :: cs => isLet c && cs.all fun c => isLet c || isDig c
def simpleM (s : List UInt8) : Bool := decide (s.length ≤ 100) && simp1 s
def fullF : Nat → List UInt8 → Bool
 | 0, _ => false
 | n + 1, s => simp1 (s.takeWhile (· != 46)) && (match s.dropWhile (· != 46) with | [] => true | _ :: r => fullF n r)
def fullM (s : List UInt8) : Bool := decide (s.length ≤ 100) && fullF (s.length + 1) s
theorem fullF_fuel : ∀ (n m : Nat) (s : List UInt8), s.length < n → s.length < m → fullF n s = fullF m s
 | 0, _, _, h, _ => by omega
 | _, 0, _, _, h => by omega
 | n + 1, m + 1, s, h1, h2 => by
   rw [fullF, fullF]
   congr 1
   have hd : (s.dropWhile (· != 46)).length ≤ s.length := (List.dropWhile_sublist _).length_le
   split
   · rfl
   · rename_i x r hr
     rw [hr] at hd
     simp at hd
     exact fullF_fuel n m r (by omega) (by omega)
def kwords : List (List UInt8) := [[], [110, 117, 108, 108], [98, 111, 111, 108, 101, 97, 110], [105, 110, 116], [108, 111, 110, 103], [102, 108, 111, 97, 116], [100, 111, 117, 98, 108, 101], [98, 121, 116, 101, 115], [115, 116, 114, 105, 110, 103], [114, 101, 99, 111, 114, 100], [101, 110, 117, 109], [97, 114, 114, 97, 121], [109, 97, 112], [], [102, 105, 120, 101, 100]]
def kindM (s : List UInt8) : Nat := if s = [] then 0 else match kwords.findIdx? (· == s) with | some i => i | none => 0
/-! Schemas that may be. -/
def diffM (rule : List UInt8 → Bool) (l : List (List UInt8)) : Bool := l.all rule && decide l.Nodup
def allM (rule : List UInt8 → Bool) (l : List (List UInt8)) : Bool := decide (l.length ≤ 40) && l.all rule
def jzero : JT := .mk 0 0 [] [] []
def bareM (n : NT) : Bool :=
 (namedK n.kind || (n.name.isEmpty && n.aliases.isEmpty)) && ((n.kind == 9 || n.fields.isEmpty) && ((n.kind == 10 || (n.symbols.isEmpty && (!n.has && n.dflt.isEmpty))) && ((n.kind == 14 || n.size == 0) && ((n.kind == 11 || n.kind == 12 || n.items == 0) && (n.kind == 13 || n.branches.isEmpty)))))
noncomputable def fieldM (f : FT) : Bool := allM simpleM f.aliases && (if f.has = true then jR f.dflt else jeq f.dflt jzero)
noncomputable def fieldsM (l : List FT) : Bool := l.all fieldM && (decide (l.length ≤ 40) && diffM simpleM (l.map (·.name)))
def branchM (ns : List NT) (l : List Int) (k : Int) : Bool := kindAt ns k.toNat != 13 && !l.any fun m => m == k || (!namedK (kindAt ns k.toNat) && kindAt ns m.toNat == kindAt ns k.toNat)
def branchesM (ns : List NT) : List Int → List Int → Bool
 | _, [] => true
 | l, k :: ks => branchM ns l k && branchesM ns (l ++ [k]) ks
def unionM (ns : List NT) (l : List Int) : Bool := decide (1 ≤ l.length) && (decide (l.length ≤ 10) && branchesM ns [] l)
noncomputable def nodeM (ns : List NT) (n : NT) : Bool :=
 (decide (1 ≤ n.kind) && (decide (n.kind ≤ 14) && bareM n)) && ((!namedK n.kind || (fullM n.name && (kindM n.name == 0 && allM fullM n.aliases))) && (
  if n.kind = 9 then fieldsM n.fields else if n.kind = 10 then ((n.has == n.symbols.contains n.dflt) && (n.has || n.dflt.isEmpty)) && (decide (1 ≤ n.symbols.length) && (decide (n.symbols.length ≤ 40) && diffM simpleM n.symbols))
  else if n.kind = 14 then decide (0 ≤ n.size) && decide (n.size ≤ 1000) else if n.kind = 13 then unionM ns n.branches else true))
def weighK (f : Nat → List Int → Int × List Int) : List FT → Int → List Int → Int × List Int
 | [], n, kn => (n, kn)
 | x :: xs, n, kn => weighK f xs (min (n + (f x.type.toNat kn).1) 1001) (f x.type.toNat kn).2
def knAt (kn : List Int) (k : Nat) : Int := match kn[k]? with | some n => n | none => 0
def fieldsAt (ns : List NT) (k : Nat) : List FT := match ns[k]? with | some n => (if n.kind = 9 then n.fields else []) | none => []
def weighM (ns : List NT) : Nat → Nat → List Int → Int × List Int
 | 0, _, kn => (1001, kn)
 | d + 1, p, kn => if knAt kn p < 0 then (1001, kn) else if 0 < knAt kn p then (knAt kn p, kn) else
   ((weighK (weighM ns d) (fieldsAt ns p) 1 (kn.set p (-1))).1, (weighK (weighM ns d) (fieldsAt ns p) 1 (kn.set p (-1))).2.set p (weighK (weighM ns d) (fieldsAt ns p) 1 (kn.set p (-1))).1)
noncomputable def rightL (ns : List NT) : List NT → Nat → List Int → Bool
 | [], _, _ => true
 | n :: r, p, kn => nodeM ns n && (decide ((weighM ns (ns.length + 1) p kn).1 ≤ 1000) && rightL ns r (p + 1) (weighM ns (ns.length + 1) p kn).2)
def namesM (ns : List NT) : List (List UInt8) := (ns.filter fun n => namedK n.kind).map (·.name)
noncomputable def rightM (s : ST) : Bool := orderedM s && (rightL s.nodes s.nodes 0 (List.replicate s.nodes.length 0) && diffM fullM (namesM s.nodes))
theorem right_ordered {s : ST} (h : rightM s = true) : orderedM s = true := by
 unfold rightM at h
 simp only [Bool.and_eq_true] at h
 exact h.1

theorem told_plain {P : Program} {f : FuncId} {xs : List Value} {r : Value} (hE : Enters P f) (hr : r.oneCell' = true) (h : ∀ W : World, Calls P f xs.toArray W fun e w' => e = .returned r ∧ w' = W) : Told P f (xs.map fun x => .c (.v x)) (.c (.v r)) := by
 refine ⟨hE, fun W ro vs hro hgk hl => ?_⟩
 have hvs : vs = xs := by
  apply List.ext_getElem?
  intro k
  by_cases hk : k < xs.length
  · have hkv : k < vs.length := by rw [hl.1]; simpa using hk
    have := hl.2 k _ _ (by rw [List.getElem?_map, List.getElem?_eq_getElem hk]; rfl) (List.getElem?_eq_getElem hkv)
    rw [List.getElem?_eq_getElem hkv, rep_prim this, List.getElem?_eq_getElem hk]
  · rw [List.getElem?_eq_none (by rw [hl.1]; simpa using hk), List.getElem?_eq_none (by omega)]
 subst hvs
 refine (h W).mono ?_
 rintro e W' ⟨rfl, rfl⟩
 exact ⟨r, ro, rfl, Below.refl _ _, fun b h => h, fun b h => ⟨.inl h, hro b h⟩, .c (.v hr), .c _⟩

theorem letter_told (c : UInt8) : Told Tryz.prog 186 [.c (.v (.int .u8 (c.toNat : Int)))] (.c (.v (.bool (isLet c)))) := by
 obtain ⟨V, hV⟩ : ∃ V, V = isLet c := ⟨_, rfl⟩
 rw [← hV]
 obtain ⟨y, hy⟩ : ∃ y : Int, y = (c.toNat : Int) := ⟨_, rfl⟩
 rw [← hy]
 have hv : V = ((decide (y ≥ 97) && decide (y ≤ 122)) || ((decide (y ≥ 65) && decide (y ≤ 90)) || (y == 95))) := by
  have e : (y == 95) = decide (c.toNat = 95) := by
   rw [hy]
   by_cases h : c.toNat = 95
   · simp [h]
   · have : ¬ ((c.toNat : Int) = 95) := by omega
     simp [h, this]
  rw [hV, isLet, e, hy]
  congr 1
  · congr 1 <;> simp <;> omega
  · congr 1
    congr 1 <;> simp <;> omega
 clear hV hy
 replace hv := Lib.hid hv
 refine VC.toldP ent_186 Tryz.func186 rfl Tryz.ntmps186 fun hb => ?_
 clear hb
 (repeat (first | refine pass ?_ | refine VC.region (by rfl) (by rfl) ?_ | (refine AO.step fun K hK => ?_; simp only [List.append_assoc, go_sem, Int.reduceBEq, Int.reduceLE, Int.reduceLT, Int.reduceNeg, Nat.reduceAdd, Nat.reduceEqDiff, Nat.reduceLT, Nat.reduceLeDiff, Nat.reduceMul, Nat.reduceSub, reduceCtorEq, ↓reduceIte]; (first | refine gsel_skip ?_ | refine gsel_go ?_ | skip); (first | refine hK _ _ _ ?_ | refine ⟨by first | omega | exact ⟨_, rfl, rfl⟩ | exact fun _ => ⟨_, rfl, rfl⟩ | (intro h; simp only [List.append_assoc, h, true_and]; omega) | (clear hK; intro h; simp_all <;> omega), hK _ _ _ ?_⟩); clear hK K) | refine VC.draw mixP (by rfl) (by rfl) ?_ | refine ⟨okd_of (by kernel_rfl), ?_⟩ | refine BQ.other (by decide) ?_ | refine VC.seq ?_ | refine AO.nil ?_ | refine VC.block ?_))
 refine retX Tryz.results186 ?_
 have hv2 : V = ((decide (y ≥ 97) && decide (y ≤ 122)) || (decide (y ≥ 65) && decide (y ≤ 90)) || (y == 95)) := by rw [hv.out, Bool.or_assoc]
 rw [hv2]
 exact .c _
def okAt (i : Nat) (c : UInt8) : Bool := isLet c || (decide (0 < i) && isDig c)
theorem simp1_at {s : List UInt8} : simp1 s = true ↔ s ≠ [] ∧ ∀ (i : Nat) (c : UInt8), s[i]? = some c → okAt i c = true := by
 cases s with
 | nil => simp [simp1]
 | cons x xs =>
   simp only [simp1, Bool.and_eq_true, List.all_eq_true, ne_eq, reduceCtorEq, not_false_eq_true, true_and]
   constructor
   · rintro ⟨h1, h2⟩ i c hc
     match i with
     | 0 =>
       simp at hc
       subst hc
       simp [okAt, h1]
     | i + 1 =>
       rw [List.getElem?_cons_succ] at hc
       have := h2 c (List.mem_of_getElem? hc)
       simpa [okAt] using this
   · intro h
     refine ⟨by simpa [okAt] using h 0 x rfl, fun c hc => ?_⟩
     obtain ⟨i, hi⟩ := List.getElem?_of_mem hc
     simpa [okAt] using h (i + 1) c (by rw [List.getElem?_cons_succ]; exact hi)
theorem simple1_told (s : List UInt8) (hs : s.length ≤ 1000000000) : Told Tryz.prog 137 [.c (.v (.string (str s)))] (.c (.v (.bool (simp1 s)))) := by
 obtain ⟨V, hV⟩ : ∃ V, V = simp1 s := ⟨_, rfl⟩
 rw [← hV]
 refine VC.toldP ent_137 Tryz.func137 rfl Tryz.ntmps137 fun hb => ?_
 clear hb
 refine walkGF (@str_size) ?_
 refine VC.loop (ι := {i : Nat // i ≤ s.length ∧ ∀ (j : Nat) (c : UInt8), j < i → s[j]? = some c → okAt j c = true})
  (fun q => [(0, .c (.v (.string (str s)))), (5, .c (.v (.int .i64 (s.length : Int)))), (6, .c (.v (.int .i64 (q.1 : Int))))]) (fun _ => []) 800 (fun q => s.length - q.1) ⟨0, Nat.zero_le _, fun j c h => by omega⟩ ?_ ?_
 · simp only [Weak, eq_self, used_is, sc_any, sc_c, sc_pp, sc_ref, sc_row, sc_agg, sc_fn, ScL, some_imp, List.forall_mem_map, go_sem, Int.reduceBEq, Int.reduceLE, Int.reduceLT, Int.reduceNeg, Nat.reduceAdd, Nat.reduceEqDiff, Nat.reduceLT, Nat.reduceLeDiff, Nat.reduceMul, Nat.reduceSub, reduceCtorEq, ↓reduceIte]
   try trivial
 rintro ⟨i, hi, ht⟩
 simp only []
 refine walkG ?_
 refine VC.cond (by rfl) (by trivial) (fun hc => ?_) (fun hc => ?_)
 · have hlt : i < s.length := by simp at hc; omega
   obtain ⟨c, hx⟩ : ∃ c, s[i]? = some c := ⟨s[i], List.getElem?_eq_getElem hlt⟩
   have hw : IntKind.i64.wrap ((i : Int) + 1) = (i : Int) + 1 := wrap64_id (by omega) (by omega)
   have hL := letter_told c
   refine walkGF (And.intro @str_size (And.intro @str_dl hx)) ?_
   refine walkC (hL) ?_
   refine walkGF (And.intro @str_size (And.intro @str_dl hx)) ?_
   refine VC.cond (by rfl) (by trivial) (fun hc2 => ?_) (fun hc2 => ?_)
   · have hf : V = false := by
      cases h : V with
      | false => rfl
      | true =>
        rw [hV, simp1_at] at h
        have := h.2 i c hx
        cases hl : isLet c with
        | true => simp [hl] at hc2
        | false =>
          simp [okAt, isDig, hl] at this hc2
          omega
     subst hf
     refine walkG ?_
     refine retX Tryz.results137 ?_
     exact .c _
   · refine walkGF (hw) ?_
     refine .next ⟨i + 1, by omega, ?_⟩ ?_ (by simp only []; omega)
     · intro j d hj hd
       by_cases hji : j < i
       · exact ht j d hji hd
       · obtain rfl : j = i := by omega
         rw [hx] at hd
         obtain rfl := Option.some.inj hd
         cases hl : isLet c with
         | true => simp [okAt, hl]
         | false =>
           simp [okAt, isDig, hl] at hc2 ⊢
           omega
     simp only [Weak, eq_self, used_is, sc_any, sc_c, sc_pp, sc_ref, sc_row, sc_agg, sc_fn, ScL, some_imp, List.forall_mem_map, go_sem, Int.reduceBEq, Int.reduceLE, Int.reduceLT, Int.reduceNeg, Nat.reduceAdd, Nat.reduceEqDiff, Nat.reduceLT, Nat.reduceLeDiff, Nat.reduceMul, Nat.reduceSub, reduceCtorEq, ↓reduceIte]
     try exact cI (by omega)
 · have hE : (⟨#[]⟩ : ByteArray).toList = [] := str_toList []
   have hie : i = s.length := by simp at hc; omega
   have hf : V = !(s == []) := by
    rw [hV, Bool.eq_iff_iff, simp1_at]
    constructor
    · rintro ⟨h1, _⟩
      simpa using h1
    · intro h1
      refine ⟨by simpa using h1, fun j c hj => ht j c ?_ hj⟩
      have := (List.getElem?_eq_some_iff.1 hj).1
      omega
   refine walkGF (And.intro @str_toList hE) ?_
   refine retX Tryz.results137 ?_
   rw [hf]
   exact .c _
theorem simple_told (s : List UInt8) (hs : s.length ≤ 1000000000) : Told Tryz.prog 134 [.c (.v (.string (str s)))] (.c (.v (.bool (simpleM s)))) := by
 obtain ⟨V, hV⟩ : ∃ V, V = simpleM s := ⟨_, rfl⟩
 rw [← hV]
 have hv : V = (decide ((s.length : Int) ≤ 100) && simp1 s) := by
  rw [hV, simpleM]
  congr 1
  simp
  omega
 have hT := simple1_told s hs
 clear hV
 refine VC.toldP ent_134 Tryz.func134 rfl Tryz.ntmps134 fun hb => ?_
 clear hb
 refine walkGF (@str_size) ?_
 refine walkD (hT) ?_
 refine walkG ?_
 refine retX Tryz.results134 ?_
 rw [hv]
 exact .c _

theorem index_take (c : UInt8) : ∀ s : List UInt8, (Lib.indexByte s c = -1 ∧ s.takeWhile (· != c) = s ∧ s.dropWhile (· != c) = []) ∨ (∃ i : Nat, i < s.length ∧ Lib.indexByte s c = (i : Int) ∧ s.takeWhile (· != c) = s.take i ∧ s.dropWhile (· != c) = c :: s.drop (i + 1))
 | [] => .inl ⟨rfl, rfl, rfl⟩
 | x :: xs => by
   by_cases h : x = c
   · subst h
     exact .inr ⟨0, by simp, by simp [Lib.indexByte], by simp, by simp⟩
   · have hb : (x == c) = false := by simp [h]
     have hb' : (x != c) = true := by simp [h]
     rcases index_take c xs with ⟨h1, h2, h3⟩ | ⟨i, h0, h1, h2, h3⟩
     · exact .inl ⟨by simp [Lib.indexByte, hb, h1], by rw [List.takeWhile_cons, if_pos hb', h2], by rw [List.dropWhile_cons, if_pos hb', h3]⟩
     · refine .inr ⟨i + 1, by simp; omega, ?_, by rw [List.takeWhile_cons, if_pos hb', h2]; rfl, by rw [List.dropWhile_cons, if_pos hb', h3]; rfl⟩
       rw [Lib.indexByte, hb, h1]
       have : ((i : Int) == -1) = false := by simp
       simp [this]
theorem str_extract (l : List UInt8) (a b : Nat) : (str l).extract a b = str ((l.take b).drop a) := by
 apply ByteArray.ext
 simp [str, ByteArray.data_extract, List.drop_take]
theorem index_told (s : List UInt8) : Told Tryz.prog 214 [.c (.v (.string (str s))), .c (.v (.string ⟨#[46]⟩))] (.c (.v (.int .i64 (Lib.indexByte s 46)))) :=
 told_plain (xs := [.string (str s), .string ⟨#[46]⟩]) ent_214 rfl fun W => Tryz.stringslite_Index_one (str s) 46 W
theorem cut0_told (s : List UInt8) (hs : s.length ≤ 1000000000) : Told Tryz.prog 185 [.c (.v (.string (str s))), .c (.v (.string ⟨#[46]⟩))] (.tup [.c (.v (.string (str (s.takeWhile (· != 46))))), .c (.v (.string (str (s.dropWhile (· != 46)).tail))), .c (.v (.bool (!(s.dropWhile (· != 46)).isEmpty)))]) := by
 have hI := index_told s
 rcases index_take 46 s with ⟨h1, h2, h3⟩ | ⟨i, h0, h1, h2, h3⟩
 · rw [h2, h3]
   rw [h1] at hI
   refine VC.toldP ent_185 Tryz.func185 rfl Tryz.ntmps185 fun hb => ?_
   clear hb
   refine walkG ?_
   refine walkC (hI) ?_
   refine walkB ?_
   refine retX Tryz.results185 ?_
   exact ⟨.c _, .c _, .c _⟩
 · rw [h2, h3]
   rw [h1] at hI
   have hd : decide ((i : Int) ≥ 0) = true := by simp
   have hz : (⟨#[46]⟩ : ByteArray).size = 1 := rfl
   have hw : IntKind.i64.wrap ((i : Int) + 1) = (i : Int) + 1 := wrap64_id (by omega) (by omega)
   have hx1 : (str s).extract 0 i = str (s.take i) := by
    rw [str_extract, List.drop_zero]
   have hx2 : (str s).extract (i + 1) s.length = str (s.drop (i + 1)) := by
    rw [str_extract, List.take_length]
   have ht : ((i : Int) + 1).toNat = i + 1 := by omega
   refine VC.toldP ent_185 Tryz.func185 rfl Tryz.ntmps185 fun hb => ?_
   clear hb
   refine walkG ?_
   refine walkC (hI) ?_
   refine walkBF (And.intro hd (And.intro hz (And.intro hw @str_size))) ?_
   refine retX Tryz.results185 ?_
   rw [ht, hx1, hx2]
   exact ⟨.c _, .c _, .c _⟩
theorem cut_told (s : List UInt8) (hs : s.length ≤ 1000000000) : Told Tryz.prog 136 [.c (.v (.string (str s))), .c (.v (.string ⟨#[46]⟩))] (.tup [.c (.v (.string (str (s.takeWhile (· != 46))))), .c (.v (.string (str (s.dropWhile (· != 46)).tail))), .c (.v (.bool (!(s.dropWhile (· != 46)).isEmpty)))]) := by
 have hI := cut0_told s hs
 refine VC.toldP ent_136 Tryz.func136 rfl Tryz.ntmps136 fun hb => ?_
 clear hb
 refine walkG ?_
 refine walkC (hI) ?_
 refine walkG ?_
 refine retX Tryz.results136 ?_
 exact ⟨.c _, .c _, .c _⟩
theorem full_told (s : List UInt8) (hs : s.length ≤ 1000000000) : Told Tryz.prog 72 [.c (.v (.string (str s)))] (.c (.v (.bool (fullM s)))) := by
 obtain ⟨V, hV⟩ : ∃ V, V = fullM s := ⟨_, rfl⟩
 rw [← hV]
 unfold fullM at hV
 refine VC.toldP ent_72 Tryz.func72 rfl Tryz.ntmps72 fun hb => ?_
 clear hb
 refine walkGF (@str_size) ?_
 refine VC.cond (by rfl) (by trivial) (fun hc => ?_) (fun hc => ?_)
 · have hf : V = false := by
    have : ¬ (s.length ≤ 100) := by simp at hc; omega
    rw [hV]
    simp [this]
   subst hf
   refine walkG ?_
   refine retX Tryz.results72 ?_
   exact .c _
 have hl : s.length ≤ 100 := by simp at hc; omega
 have hv : fullF (s.length + 1) s = V := by rw [hV]; simp [hl]
 clear hV hc
 refine walkG ?_
 refine VC.loop (ι := {l : List UInt8 // l.length ≤ 100 ∧ fullF (l.length + 1) l = V}) (fun q => [(0, .c (.v (.string (str q.1))))]) (fun _ => []) 800 (fun q => q.1.length) ⟨s, hl, hv⟩ ?_ ?_
 · exact weakZ
 rintro ⟨l, hl, hv⟩
 simp only []
 rw [fullF] at hv
 have hC := cut_told l (by omega)
 obtain ⟨p, hp⟩ : ∃ p, p = l.takeWhile (· != 46) := ⟨_, rfl⟩
 obtain ⟨D, hD⟩ : ∃ D, D = l.dropWhile (· != 46) := ⟨_, rfl⟩
 have hpl : p.length ≤ l.length := by rw [hp]; exact (List.takeWhile_sublist _).length_le
 have hDl : D.length ≤ l.length := by rw [hD]; exact (List.dropWhile_sublist _).length_le
 rw [← hp, ← hD] at hC hv
 clear hp hD
 have hS := simple1_told p (by omega)
 refine walkG ?_
 refine walkC (hC) ?_
 refine walkG ?_
 refine walkC (hS) ?_
 refine walkG ?_
 refine VC.cond (by rfl) (by trivial) (fun hc => ?_) (fun hc => ?_)
 · have hf : V = false := by
    rw [← hv]
    have : simp1 p = false := by simpa using hc
    simp [this]
   subst hf
   refine walkG ?_
   refine retX Tryz.results72 ?_
   exact .c _
 have hp1 : simp1 p = true := by simpa using hc
 rw [hp1, Bool.true_and] at hv
 refine walkG ?_
 refine VC.cond (by rfl) (by trivial) (fun hc2 => ?_) (fun hc2 => ?_)
 · cases D with
   | cons x r => simp at hc2
   | nil =>
     have hf : V = true := hv.symm
     subst hf
     refine walkG ?_
     refine retX Tryz.results72 ?_
     exact .c _
 · cases D with
   | nil => simp at hc2
   | cons x r =>
     simp only [] at hv
     simp only [List.length_cons] at hDl
     (repeat (first | refine pass ?_ | refine VC.region (by rfl) (by rfl) ?_ | (refine AO.step fun K hK => ?_; simp only [List.tail_cons, go_sem, Int.reduceBEq, Int.reduceLE, Int.reduceLT, Int.reduceNeg, Nat.reduceAdd, Nat.reduceEqDiff, Nat.reduceLT, Nat.reduceLeDiff, Nat.reduceMul, Nat.reduceSub, reduceCtorEq, ↓reduceIte]; (first | refine gsel_skip ?_ | refine gsel_go ?_ | skip); (first | refine hK _ _ _ ?_ | refine ⟨by first | omega | exact ⟨_, rfl, rfl⟩ | exact fun _ => ⟨_, rfl, rfl⟩ | (intro h; simp only [List.tail_cons, h, true_and]; omega) | (clear hK; intro h; simp_all <;> omega), hK _ _ _ ?_⟩); clear hK K) | refine VC.draw mixP (by rfl) (by rfl) ?_ | refine ⟨okd_of (by kernel_rfl), ?_⟩ | refine BQ.other (by decide) ?_ | refine VC.seq ?_ | refine AO.nil ?_ | refine VC.block ?_))
     refine .next ⟨r, by omega, by rw [← hv]; exact fullF_fuel _ _ _ (by omega) (by omega)⟩ ?_ (by simp only []; omega)
     exact weakZ
theorem kind_told (s : List UInt8) : Told Tryz.prog 130 [.c (.v (.string (str s)))] (.c (.v (.int .i64 (kindM s : Int)))) := by
 obtain ⟨V, hV⟩ : ∃ V, V = kindM s := ⟨_, rfl⟩
 rw [← hV]
 obtain ⟨L, hL⟩ : ∃ L, L = kwords.map fun l => PV.v (.string (str l)) := ⟨_, rfl⟩
 have hg : glob Tryz.prog 0 = some L := by rw [hL]; kernel_rfl
 have hLl : L.length = 15 := by rw [hL]; rfl
 have hLt : L.take 15 = L := by rw [← hLl, List.take_length]
 refine VC.toldP ent_130 Tryz.func130 rfl Tryz.ntmps130 fun hb => ?_
 clear hb
 refine walkGF (And.intro hg (And.intro hLl hLt)) ?_
 have hE : (⟨#[]⟩ : ByteArray).toList = [] := str_toList []
 have hkl : kwords.length = 15 := rfl
 refine VC.loop (ι := {i : Nat // i ≤ 15 ∧ ∀ (j : Nat) (w : List UInt8), j < i → kwords[j]? = some w → s ≠ [] → w ≠ s}) (fun q => [(0, .c (.v (.string (str s)))), (5, .agg (L.map .c)), (6, .c (.v (.int .i64 (q.1 : Int))))]) (fun _ => []) 800 (fun q => 15 - q.1) ⟨0, by omega, fun j w h => by omega⟩ ?_ ?_
 · exact weakZ
 rintro ⟨i, hi, ht⟩
 simp only []
 refine walkG ?_
 refine VC.cond (by rfl) (by trivial) (fun hc => ?_) (fun hc => ?_)
 · have hlt : i < 15 := by simp at hc; omega
   obtain ⟨w, hx⟩ : ∃ w, kwords[i]? = some w := ⟨kwords[i]'(by omega), List.getElem?_eq_getElem (by omega)⟩
   have hLx : (L.map AV.c)[i]? = some (.c (.v (.string (str w)))) := by rw [hL, List.getElem?_map, List.getElem?_map, hx]; rfl
   have hw : IntKind.i64.wrap ((i : Int) + 1) = (i : Int) + 1 := wrap64_id (by omega) (by omega)
   refine walkGF (And.intro hLx (And.intro @str_toList hE)) ?_
   refine VC.cond (by rfl) (by trivial) (fun hc2 => ?_) (fun hc2 => ?_)
   · have hh : w = s ∧ s ≠ [] := by simpa using hc2
     have hf : V = i := by
      rw [hV, kindM, if_neg hh.2]
      have : kwords.findIdx? (· == s) = some i := by
       rw [List.findIdx?_eq_some_iff_getElem]
       refine ⟨by omega, ?_, fun j hj => ?_⟩
       · have := (List.getElem?_eq_some_iff.1 hx).2
         simp [this, hh.1]
       · have := ht j _ hj (List.getElem?_eq_getElem (by omega)) hh.2
         simpa using this
      rw [this]
     subst hf
     refine walkG ?_
     refine retX Tryz.results130 ?_
     exact .c _
   · have hh : ¬ (w = s ∧ s ≠ []) := by simpa using hc2
     refine walkGF (hw) ?_
     refine .next ⟨i + 1, by omega, ?_⟩ ?_ (by simp only []; omega)
     · intro j u hj hu hs
       by_cases hji : j < i
       · exact ht j u hji hu hs
       · obtain rfl : j = i := by omega
         rw [hx] at hu
         obtain rfl := Option.some.inj hu
         exact fun e => hh ⟨e, hs⟩
     refine weakX ?_
     exact cI (by omega)
 · have hie : i = 15 := by simp at hc; omega
   have hf : V = 0 := by
    rw [hV, kindM]
    split
    · rfl
    · rename_i hs
      have : kwords.findIdx? (· == s) = none := by
       rw [List.findIdx?_eq_none_iff]
       intro w hw
       obtain ⟨j, hj⟩ := List.getElem?_of_mem hw
       have := ht j w (by have := (List.getElem?_eq_some_iff.1 hj).1; omega) hj hs
       simpa using this
      rw [this]
   subst hf
   refine walkG ?_
   refine retX Tryz.results130 ?_
   exact .c _

theorem sindex_told (ks : List (List UInt8)) (key : List UInt8) : Told Tryz.prog 182 [.c (.sl 1 (ks.map sPV)), .c (.v (.string (str key)))] (.c (.v (.int .i64 (idxS key ks)))) := by
 refine VC.told ent_182 Tryz.func182 rfl Tryz.ntmps182 (by simp) rfl rfl fun hb => ?_
 simp only [abd_c, pbd_sl, pbd_v, List.mem_cons, List.not_mem_nil, or_false, forall_eq_or_imp, forall_eq, List.length_map, and_true] at hb
 have h1 := hb.1
 clear hb
 refine walkG ?_
 refine VC.loop (ι := {i : Nat // i ≤ ks.length ∧ ∀ j, j < i → ks[j]? ≠ some key}) (fun i => [(0, .c (.sl 1 (ks.map sPV))), (1, .c (.v (.string (str key)))), (7, .c (.v (.int .i64 ks.length))), (8, .c (.v (.int .i64 i.1)))]) (fun _ => []) 0 (fun i => ks.length - i.1) ⟨0, Nat.zero_le _, by intro j hj; omega⟩ ?_ ?_
 · simp only [Weak, eq_self, used_is, sc_any, sc_c, sc_pp, sc_ref, sc_row, sc_agg, sc_fn, ScL, some_imp, List.forall_mem_map, go_sem, Int.reduceBEq, Int.reduceLE, Int.reduceLT, Int.reduceNeg, Nat.reduceAdd, Nat.reduceEqDiff, Nat.reduceLT, Nat.reduceLeDiff, Nat.reduceMul, Nat.reduceSub, reduceCtorEq, ↓reduceIte]
   all_goals rfl
 rintro ⟨i, hi, ht⟩
 refine walkG ?_
 refine VC.cond (by rfl) (by trivial) (fun hc => ?_) (fun hc => ?_)
 · simp only [decide_eq_true_eq] at hc
   obtain ⟨x, hx⟩ : ∃ x, ks[i]? = some x := ⟨ks[i], List.getElem?_eq_getElem (by omega)⟩
   have hw : IntKind.i64.wrap ((i : Int) + 1) = (i : Int) + 1 := wrap64_id (by omega) (by omega)
   (repeat (first | refine pass ?_ | refine VC.region (by rfl) (by rfl) ?_ | (refine AO.step fun K hK => ?_; simp only [List.getElem?_map, hx, sPV, str_toList, go_sem, Int.reduceBEq, Int.reduceLE, Int.reduceLT, Int.reduceNeg, Nat.reduceAdd, Nat.reduceEqDiff, Nat.reduceLT, Nat.reduceLeDiff, Nat.reduceMul, Nat.reduceSub, reduceCtorEq, ↓reduceIte]; (first | refine gsel_skip ?_ | refine gsel_go ?_ | skip); (first | refine hK _ _ _ ?_ | refine ⟨by first | omega | exact ⟨_, rfl, rfl⟩ | exact fun _ => ⟨_, rfl, rfl⟩ | (intro h; simp only [List.getElem?_map, hx, sPV, str_toList, h, true_and]; omega) | (clear hK; intro h; simp_all <;> omega), hK _ _ _ ?_⟩); clear hK K) | refine VC.draw mixP (by rfl) (by rfl) ?_ | refine ⟨okd_of (by kernel_rfl), ?_⟩ | refine BQ.other (by decide) ?_ | refine VC.seq ?_ | refine AO.nil ?_ | refine VC.block ?_))
   refine VC.cond (by rfl) (by trivial) (fun hc2 => ?_) (fun hc2 => ?_)
   · have hxy : key = x := by simpa using hc2
     subst hxy
     have hr := idxS_at hx ht
     refine walkG ?_
     refine ⟨.inr rfl, ?_⟩
     rw [Tryz.results182, hr]
     simp only [resOk, resV, go_sem, simprocAttr]
     exact .c _
   · have hxy : key ≠ x := by simpa using hc2
     refine walkGF (hw) ?_
     refine .next ⟨i + 1, by omega, fun j hj => ?_⟩ ?_ (by simp only []; omega)
     · rcases Nat.lt_or_ge j i with h | h
       · exact ht j h
       · obtain rfl : j = i := by omega
         rw [hx]
         intro e
         exact hxy (Option.some.inj e).symm
     refine weakX ?_
     exact cI (by omega)
 · simp only [decide_eq_false_iff_not] at hc
   obtain rfl : i = ks.length := by omega
   have hr := idxS_none ht
   refine walkG ?_
   refine ⟨.inr rfl, ?_⟩
   rw [Tryz.results182, hr]
   simp only [resOk, resV, go_sem, simprocAttr]
   exact .c _

theorem named_told (k : Int) : Told Tryz.prog 70 [.c (.v (.int .i64 k))] (.c (.v (.bool (namedK k)))) := by
 obtain ⟨V, hV⟩ : ∃ V, V = namedK k := ⟨_, rfl⟩
 rw [← hV]
 unfold namedK at hV
 replace hV := Lib.hid hV
 refine VC.toldP ent_70 Tryz.func70 rfl Tryz.ntmps70 fun hb => ?_
 clear hb
 refine walkG ?_
 refine retX Tryz.results70 ?_
 rw [hV.out]
 exact .c _
theorem idxS_ge (key : List UInt8) (ks : List (List UInt8)) : decide (idxS key ks ≥ 0) = ks.contains key := by
 unfold idxS
 cases h : ks.findIdx? (fun k => decide (key = k)) with
 | none =>
   rw [List.findIdx?_eq_none_iff] at h
   have : key ∉ ks := fun hm => by simpa using h key hm
   simp [this]
 | some i =>
   rw [List.findIdx?_eq_some_iff_getElem] at h
   obtain ⟨hi, h1, _⟩ := h
   have : key ∈ ks := by
    have := List.getElem_mem hi
    simp at h1
    rwa [← h1] at this
   simp [this]
theorem contains_told (ks : List (List UInt8)) (key : List UInt8) : Told Tryz.prog 133 [.c (.sl 1 (ks.map sPV)), .c (.v (.string (str key)))] (.c (.v (.bool (ks.contains key)))) := by
 have hI := sindex_told ks key
 have hG := idxS_ge key ks
 generalize idxS key ks = z at hI hG
 rw [← hG]
 clear hG
 refine VC.toldP ent_133 Tryz.func133 rfl Tryz.ntmps133 fun hb => ?_
 clear hb
 refine walkG ?_
 refine walkC (hI) ?_
 refine walkG ?_
 refine retX Tryz.results133 ?_
 exact .c _
def fnP (g : FuncId) : PV := .v (.func (.func g) ⟨[]⟩ ⟨[]⟩)
theorem diffM_take {rule : List UInt8 → Bool} {l : List (List UInt8)} {i : Nat} {x : List UInt8} (hx : l[i]? = some x) : diffM rule (l.take (i + 1)) = (diffM rule (l.take i) && (rule x && !(l.take i).contains x)) := by
 have ht : l.take (i + 1) = l.take i ++ [x] := by
  rw [List.take_add_one, hx]
  rfl
 rw [ht, Bool.eq_iff_iff]
 simp only [diffM, List.all_append, List.all_cons, List.all_nil, Bool.and_true, Bool.and_eq_true, decide_eq_true_eq, List.nodup_append, Bool.not_eq_true', List.contains_eq_mem, decide_eq_false_iff_not]
 constructor
 · rintro ⟨⟨h1, h2⟩, h3, _, h5⟩
   exact ⟨⟨h1, h3⟩, h2, fun h => h5 x h x (by simp) rfl⟩
 · rintro ⟨⟨h1, h3⟩, h2, h4⟩
   exact ⟨⟨h1, h2⟩, h3, by simp, fun a ha b hb => by
    obtain rfl := List.mem_singleton.1 hb
    rintro rfl
    exact h4 ha⟩
theorem different_told {g : FuncId} {rule : List UInt8 → Bool} (l : List (List UInt8)) (hl : l.length ≤ 1000000000) (hk : ∀ x ∈ l, Told Tryz.prog g [.c (.v (.string (str x)))] (.c (.v (.bool (rule x))))) :
  Told Tryz.prog 71 [.c (.sl 1 (l.map sPV)), .fn (.func g) [] []] (.c (.v (.bool (diffM rule l)))) := by
 obtain ⟨V, hV⟩ : ∃ V, V = diffM rule l := ⟨_, rfl⟩
 rw [← hV]
 refine VC.toldP ent_71 Tryz.func71 rfl Tryz.ntmps71 fun hb => ?_
 clear hb
 refine walkG ?_
 refine VC.loop (ι := {i : Nat // i ≤ l.length ∧ diffM rule (l.take i) = true}) (fun q => [(0, .c (.sl 1 (l.map sPV))), (1, .fn (.func g) [] []), (7, .c (.sl 1 (l.map sPV))), (8, .c (.v (.int .i64 (l.length : Int)))), (9, .c (.v (.int .i64 (q.1 : Int))))]) (fun _ => []) 800 (fun q => l.length - q.1) ⟨0, Nat.zero_le _, by simp [diffM]⟩ ?_ ?_
 · simp only [Weak, eq_self, used_is, sc_any, sc_c, sc_pp, sc_ref, sc_row, sc_agg, sc_fn, ScL, some_imp, List.forall_mem_map, go_sem, Int.reduceBEq, Int.reduceLE, Int.reduceLT, Int.reduceNeg, Nat.reduceAdd, Nat.reduceEqDiff, Nat.reduceLT, Nat.reduceLeDiff, Nat.reduceMul, Nat.reduceSub, reduceCtorEq, ↓reduceIte]
   try simp
 rintro ⟨i, hi, ht⟩
 simp only []
 refine walkG ?_
 refine VC.cond (by rfl) (by trivial) (fun hc => ?_) (fun hc => ?_)
 · have hlt : i < l.length := by simp at hc; omega
   obtain ⟨x, hx⟩ : ∃ x, l[i]? = some x := ⟨l[i], List.getElem?_eq_getElem hlt⟩
   have hw : IntKind.i64.wrap ((i : Int) + 1) = (i : Int) + 1 := wrap64_id (by omega) (by omega)
   have hxp : (l.map sPV)[i]? = some (sPV x) := by rw [List.getElem?_map, hx]; rfl
   have hT := hk x (List.mem_of_getElem? hx)
   have hC := contains_told (l.take i) x
   have hn := diffM_take (rule := rule) hx
   rw [ht, Bool.true_and] at hn
   have hmt : (l.map sPV).take i = (l.take i).map sPV := by rw [List.map_take]
   refine walkGF (And.intro hxp @sPV_eq) ?_
   refine walkC (hT) ?_
   refine walkGF (hmt) ?_
   refine walkD (hC) ?_
   refine walkG ?_
   refine VC.cond (by rfl) (by trivial) (fun hc2 => ?_) (fun hc2 => ?_)
   · have hf : V = false := by
      cases h : V with
      | false => rfl
      | true =>
        rw [hV] at h
        have hall : diffM rule (l.take (i + 1)) = true := by
         unfold diffM at h ⊢
         simp only [Bool.and_eq_true, List.all_eq_true, decide_eq_true_eq] at h ⊢
         exact ⟨fun y hy => h.1 y (List.mem_of_mem_take hy), h.2.sublist (List.take_sublist _ _)⟩
        rw [hn] at hall
        simp at hall hc2
        simp [hall] at hc2
     subst hf
     refine walkG ?_
     refine retX Tryz.results71 ?_
     exact .c _
   · refine walkGF (hw) ?_
     refine .next ⟨i + 1, by omega, ?_⟩ ?_ (by simp only []; omega)
     · rw [hn]
       simpa using hc2
     simp only [Weak, eq_self, used_is, sc_any, sc_c, sc_pp, sc_ref, sc_row, sc_agg, sc_fn, ScL, some_imp, List.forall_mem_map, go_sem, Int.reduceBEq, Int.reduceLE, Int.reduceLT, Int.reduceNeg, Nat.reduceAdd, Nat.reduceEqDiff, Nat.reduceLT, Nat.reduceLeDiff, Nat.reduceMul, Nat.reduceSub, reduceCtorEq, ↓reduceIte]
     try exact cI (by omega)
 · have hie : i = l.length := by simp at hc; omega
   have hf : V = true := by
    rw [hie, List.take_length] at ht
    rw [hV, ht]
   subst hf
   refine walkG ?_
   refine retX Tryz.results71 ?_
   exact .c _
end
end Go.Proofs.YtepneflbhpidbaaGreatDoor
