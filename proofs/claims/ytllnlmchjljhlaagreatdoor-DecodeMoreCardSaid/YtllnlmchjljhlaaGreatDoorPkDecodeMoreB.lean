/- Texts that lead to the law DecodeMore, joined. -/
import Derived.Test.YtllnlmchjljhlaaGreatDoorPkDecodeMoreA
import Derived.Test.YtllnlmchjljhlaaGreatDoorPkDecodeMoreXAbB
import Derived.Test.YtllnlmchjljhlaaGreatDoorPkDecodeMoreXTy
import Derived.RangeFuncNested
import Derived.RangeFuncBound
import Derived.RangeFuncCalls
import Derived.RangeFuncLeaves
import Derived.RangeFuncBox
import Derived.Shelf.Abstract
import Derived.Shelf.RegionOpen
import Derived.WalkKit
import Derived.OwnWalkIn
import Derived.TacticsInMore
import Derived.LoopNIn
import Derived.LoopIn
import Derived.Maps.AppendAt
import Derived.Sort.EveryDepth
import Derived.Test.YtllnlmchjljhlaaGreatDoorPkDecodeMoreXShelf
import Derived.Sort.OwnSorted
namespace Go.Proofs.YtllnlmchjljhlaaGreatDoor
set_option maxRecDepth 100000
set_option maxHeartbeats 6400000
open Go.RowKit
set_option linter.unusedVariables false
set_option linter.unusedSimpArgs false
section
attribute [local go_sem] opx opE ev okx gcond bnd okO AV.get AV.okb cAV upd_at putd_some putd_none wrs_nil wrs_cons look_nil look_cons st argT_at bpick_and bpick_or bpick_true bpick_false binV binI binS binVOk binOk isShift binSOk unV unVOk loadV loadP cellsA zeroA Blkd.len setE grown moreA moreR moreOk eqRes pv fillA fillE putSeg AV.cellish AV.pureL AV.pureB lentL_is ex_some AV.ren AV.renL renL_c Blkd.ren rho wrM renN lentOk rhoE keepM endOk tyA_2 tyA_3 tyA_4 tyA_5 tyA_6 tyA_7 tyA_8 tyA_9 tyA_10 tyA_11 tyA_12 tyA_13 tyA_14 tyA_15 tyA_16 tyA_17 tyA_18 tyA_19 tyA_21 tyA_22 tyA_23 tyA_24 tyA_29 tyA_30 tyA_31 tyA_32 tyA_33 tyA_34 tyA_35 tyA_36 tyA_37 tyA_38 tyA_39 tyA_40 tyA_41 tyA_42 tyA_43 tyA_49 tyA_85 tyA_89 tyA_99 tyA_100 tyA_101 tyA_105 tyA_106 tyA_107 tyA_108 tyA_109 tyA_111 tyA_112 tyA_113 tyA_114 tyA_123 tyA_126 tyA_127 tyA_128 tyA_129 tyA_130 tyA_153 tyA_163 tyA_164 tyA_165 tyA_179 tyA_185 tyA_191 tyA_192 tyA_193 tyA_194 tyA_195 tyA_196 tyA_209 tyA_213 tyA_214 tyA_215 tyA_241 tyA_248 tyA_274 tyA_275 tyA_276 tyA_292 tyA_294 tyA_302 tyA_307 tyA_315 tyA_319 tyA_321 tyA_324 tyA_325 tyA_326 tyA_327 tyA_328 tyA_329 tyA_330 tyA_332 tyA_333 Option.map_some Option.map_none Option.getD_some Option.getD_none Option.bind_some Option.bind_none List.getElem?_cons_zero List.getElem?_cons_succ List.getElem?_nil List.getElem?_toArray List.length_cons List.length_nil List.length_map List.forall_mem_map List.map_cons List.map_nil List.drop_zero List.drop_succ_cons List.drop_nil List.take_zero List.take_succ_cons List.take_nil List.mem_cons List.not_mem_nil or_false forall_eq_or_imp forall_eq List.set_cons_zero List.set_cons_succ List.cons_append List.nil_append List.append_nil List.foldl_cons List.foldl_nil List.replicate_succ List.replicate_zero List.all_cons List.all_nil if_true if_false Bool.false_eq_true ne_eq not_false_eq_true not_true_eq_false true_and and_true and_self true_implies imp_self implies_true forall_const beq_self_eq_true Bool.and_true Bool.true_and Bool.and_false Bool.false_and Bool.or_true Bool.true_or Bool.or_false Bool.false_or Bool.not_true Bool.not_false Bool.not_eq_eq_eq_not intKindOf Value.oneCell' Int.toNat_natCast beq_true beq_false Bool.not_eq_true false_implies false_or true_or or_true Nat.zero_add Nat.add_zero decide_true decide_false Int.cast_ofNat_Int Int.toNat_zero Int.toNat_one eq_self

/-! What the loops over blocks run through: as the plain readers, but with a place where these refuse. -/
abbrev Item := List (List UInt8) × VT
def itemS (map : Bool) (B : List UInt8) (val : Nat → Int → VT × Nat × Int) (p : Nat) : Item × Nat × Int :=
 if map = true then (([(lft rtext [] B p 0).1], (val (lft rtext [] B p 0).2.1 (lft rtext [] B p 0).2.2).1), (val (lft rtext [] B p 0).2.1 (lft rtext [] B p 0).2.2).2) else (([], (val p 0).1), (val p 0).2)
def rowS (step : Nat → Item × Nat × Int) : Nat → List VT → List (List UInt8) → Nat → Except (Nat × Int) (List VT × List (List UInt8) × Nat)
 | 0, xs, ks, p => .ok (xs, ks, p)
 | m + 1, xs, ks, p => if (step p).2.2 = 0 then rowS step m (xs ++ [(step p).1.2]) (ks ++ (step p).1.1) (step p).2.1 else .error (step p).2
def headS (f : List VT → List (List UInt8) → Nat → (List VT × List (List UInt8)) × Nat × Int) (step : Nat → Item × Nat × Int) (m : Nat) (xs : List VT) (ks : List (List UInt8)) (p : Nat) (e : Int) : (List VT × List (List UInt8)) × Nat × Int :=
 if m = 0 then ((xs, ks), p, e) else match rowS step m xs ks p with
  | .error r => (([], []), r)
  | .ok t => f t.1 t.2.1 t.2.2
def blkS (step : Nat → Item × Nat × Int) (cnt : Nat → Nat → Nat × Nat × Int) : Nat → List VT → List (List UInt8) → Nat → (List VT × List (List UInt8)) × Nat × Int
 | 0, xs, ks, p => ((xs, ks), p, 15)
 | k + 1, xs, ks, p => headS (blkS step cnt k) step (cnt xs.length p).1 xs ks (cnt xs.length p).2.1 (cnt xs.length p).2.2
theorem count_le {k : Nat} {B : List UInt8} {p q m : Nat} (h : rcount k B p = .ok (m, q)) : k ≤ 300 → m + k ≤ 300 := fun hk => by
 obtain ⟨n, r, h1, h2⟩ := rbind_inv h
 split at h2
 · obtain ⟨n2, r2, h6, h7⟩ := rbind_inv h2
   split at h7
   · unfold rbad at h7; simp at h7
   · unfold rret at h7
     injection h7 with h7
     injection h7 with h7 _
     omega
 · split at h2
   · unfold rbad at h2; simp at h2
   · unfold rret at h2
     injection h2 with h2
     injection h2 with h2 _
     omega
def StepOk {α : Type} (f : Rd α) (B : List UInt8) (step : Nat → α × Nat × Int) : Prop := ∀ p, p ≤ B.length → Got (f B p) B 0 (step p).1 (step p).2.1 (step p).2.2
theorem Got.is {α : Type} {f : Rd α} (hf : Fair f) {B : List UInt8} {p : Nat} {v : α} {q : Nat} {e' : Int} (h : Got (f B p) B 0 v q e') : (e' = 0 → f B p = .ok (v, q)) ∧ (e' ≠ 0 → f B p = .error e') := by
 cases hr : f B p with
 | error x =>
   have := h.bad x rfl hr
   exact ⟨fun h0 => absurd (this.symm.trans h0) (hf.ers hr), fun _ => by rw [this]⟩
 | ok r =>
   obtain ⟨h1, h2, h3⟩ := h.ok r.1 r.2 rfl hr
   exact ⟨fun _ => by rw [h1, h2], fun h0 => absurd h3 h0⟩
theorem got_of {α : Type} {f : Rd α} {B : List UInt8} {p : Nat} {v : α} {q : Nat} {e' : Int} (hq : q ≤ B.length) (h1 : e' = 0 → f B p = .ok (v, q)) (h2 : e' ≠ 0 → f B p = .error e') : Got (f B p) B 0 v q e' := by
 refine ⟨hq, fun h => absurd rfl h, fun x _ hx => ?_, fun w q' _ hx => ?_⟩
 · by_cases h : e' = 0
   · rw [h1 h] at hx; simp at hx
   · rw [h2 h] at hx; injection hx
 · by_cases h : e' = 0
   · rw [h1 h] at hx
     injection hx with hx
     injection hx with hx hx'
     exact ⟨hx, hx', h⟩
   · rw [h2 h] at hx; simp at hx
theorem rowS_got {item : Rd Item} (hf : Fair item) {B : List UInt8} {step : Nat → Item × Nat × Int} (hs : StepOk item B step) : ∀ (m : Nat) (xs : List VT) (ks : List (List UInt8)) (p : Nat), p ≤ B.length →
  (∀ t, rowS step m xs ks p = .ok t → t.2.2 ≤ B.length ∧ rrow item m xs ks B p = .ok ((t.1, t.2.1), t.2.2)) ∧ (∀ r, rowS step m xs ks p = .error r → r.1 ≤ B.length ∧ r.2 ≠ 0 ∧ rrow item m xs ks B p = .error r.2)
 | 0, xs, ks, p, hp => by
   rw [rowS, rrow]
   refine ⟨fun t h => ?_, fun r h => by simp at h⟩
   injection h with h
   subst h
   exact ⟨hp, rfl⟩
 | m + 1, xs, ks, p, hp => by
   rw [rowS, rrow]
   have hg := hs p hp
   have hi := hg.is hf
   split
   · rename_i h0
     rw [rbind_ok (hi.1 h0)]
     exact rowS_got hf hs m _ _ _ hg.le
   · rename_i h0
     rw [rbind_bad (hi.2 h0)]
     refine ⟨fun t h => by simp at h, fun r h => ?_⟩
     injection h with h
     subst h
     exact ⟨hg.le, h0, rfl⟩
theorem rowS_len {step : Nat → Item × Nat × Int} : ∀ (m : Nat) (xs : List VT) (ks : List (List UInt8)) (p : Nat) (t : List VT × List (List UInt8) × Nat), rowS step m xs ks p = .ok t → t.1.length = xs.length + m
 | 0, xs, ks, p, t, h => by
   rw [rowS] at h
   injection h with h
   subst h
   rfl
 | m + 1, xs, ks, p, t, h => by
   rw [rowS] at h
   split at h
   · have := rowS_len m _ _ _ t h
     simp at this
     omega
   · simp at h
def CntOk (B : List UInt8) (cnt : Nat → Nat → Nat × Nat × Int) : Prop := ∀ h p, h ≤ 300 → p ≤ B.length → Got (rcount h B p) B 0 (cnt h p).1 (cnt h p).2.1 (cnt h p).2.2 ∧ ((cnt h p).2.2 ≠ 0 → (cnt h p).1 = 0)
theorem blkS_got {item : Rd Item} (hf : Fair item) {B : List UInt8} {step : Nat → Item × Nat × Int} (hs : StepOk item B step) {cnt : Nat → Nat → Nat × Nat × Int} (hc : CntOk B cnt) : ∀ (k : Nat) (xs : List VT) (ks : List (List UInt8)) (p : Nat), p ≤ B.length → xs.length ≤ 300 →
  Got (rblks item k xs ks B p) B 0 (blkS step cnt k xs ks p).1 (blkS step cnt k xs ks p).2.1 (blkS step cnt k xs ks p).2.2
 | 0, xs, ks, p, hp, _ => by
   rw [rblks, blkS]
   exact got_of hp (fun h => absurd h (show ¬ ((15 : Int) = 0) by decide)) fun _ => rfl
 | k + 1, xs, ks, p, hp, hx => by
   rw [rblks, blkS, headS]
   obtain ⟨hg, hz⟩ := hc xs.length p hx hp
   have hi := hg.is (fair_count _)
   generalize cnt xs.length p = c at hg hz hi
   by_cases h0 : c.1 = 0
   · rw [if_pos h0]
     refine got_of hg.le (fun h => ?_) fun h => ?_
     · rw [rbind_ok (hi.1 h), if_pos h0]; rfl
     · rw [rbind_bad (hi.2 h)]
   · rw [if_neg h0]
     have he : c.2.2 = 0 := Decidable.not_not.1 fun h => h0 (hz h)
     have hr := rowS_got hf hs c.1 xs ks c.2.1 hg.le
     have hm := count_le (hi.1 he) hx
     have hb : (rbind (rcount xs.length) fun m => if m = 0 then rret (xs, ks) else rbind (rrow item m xs ks) fun q => rblks item k q.1 q.2) B p = rbind (rrow item c.1 xs ks) (fun q => rblks item k q.1 q.2) B c.2.1 := by rw [rbind_ok (hi.1 he), if_neg h0]
     rw [hb]
     cases hrw : rowS step c.1 xs ks c.2.1 with
     | error r =>
       obtain ⟨h1, h2, h3⟩ := hr.2 r hrw
       simp only []
       refine got_of h1 (fun h => absurd h h2) fun _ => ?_
       rw [rbind_bad h3]
     | ok t =>
       obtain ⟨h1, h2⟩ := hr.1 t hrw
       have hl := rowS_len _ _ _ _ _ hrw
       simp only []
       rw [rbind_ok h2]
       exact blkS_got hf hs hc k t.1 t.2.1 t.2.2 h1 (by omega)
theorem itemS_ok {f : Rd VT} (hf : Fair f) {B : List UInt8} {val : Nat → Int → VT × Nat × Int} (hv : ∀ p e, p ≤ B.length → Got (f B p) B e (val p e).1 (val p e).2.1 (val p e).2.2) (map : Bool) : StepOk (ritem map f) B (itemS map B val) := by
 intro p hp
 unfold itemS ritem
 cases map with
 | true =>
   rw [if_pos rfl, if_pos rfl]
   have ht := got_lft fair_text [] hp 0
   have hti := ht.is fair_text
   have hg := hv (lft rtext [] B p 0).2.1 (lft rtext [] B p 0).2.2 ht.le
   generalize lft rtext [] B p 0 = t at ht hti hg
   by_cases h0 : t.2.2 = 0
   · rw [h0] at hg ⊢
     have hvi := hg.is hf
     refine got_of hg.le (fun h => ?_) fun h => ?_
     · rw [rbind_ok (hti.1 h0), rbind_ok (hvi.1 h)]; rfl
     · rw [rbind_ok (hti.1 h0), rbind_bad (hvi.2 h)]
   · have := hg.no h0
     refine got_of hg.le (fun h => absurd (this.symm.trans h) h0) fun h => ?_
     rw [rbind_bad (hti.2 h0)]
     simp only []
     rw [this]
 | false =>
   rw [if_neg (by decide), if_neg (by decide)]
   have hg := hv p 0 hp
   have hvi := hg.is hf
   refine got_of hg.le (fun h => ?_) fun h => ?_
   · rw [rbind_ok (hvi.1 h)]; rfl
   · rw [rbind_bad (hvi.2 h)]
def ValT (ns : List NT) (r : Int) (B : List UInt8) (a : Int) (dep : Nat) (val : Nat → Int → VT × Nat × Int) : Prop := ∀ p e, p ≤ B.length →
 ToldM Tryz.prog 71 [.ref 1000000 1 0 0, .c (.v (.int .i64 a)), .c (.v (.int .i64 (dep : Int)))] [dB ns r B p e] [some (dB ns r B (val p e).2.1 (val p e).2.2)] (val p e).1.av
theorem rA_vv (l : List VT) (x : VT) : rA VT.cells l ++ [x.cells.map .c] = rA VT.cells (l ++ [x]) := by simp [rA]
theorem rA_sv (l : List (List UInt8)) (x : List UInt8) : rA sPV l ++ [[.c (.v (.string (bstr x)))]] = rA sPV (l ++ [x]) := rA_one sPV l x
theorem pvOk19 (l : List UInt8) : bytesOk (bytePV l) = True := eq_true (bytePV_ok l)
theorem ditems_told (ns : List NT) (r : Int) (B : List UInt8) (hB : B.length ≤ 1000000) (nd : NT) (dep : Nat) (val : Nat → Int → VT × Nat × Int) (hV : ValT ns r B nd.items dep val) (hle : ∀ p e, p ≤ B.length → (val p e).2.1 ≤ B.length)
  (cnt : Nat → Nat → Nat × Nat × Int) (hC : ∀ h p : Nat, h ≤ 300 → p ≤ B.length → ToldM Tryz.prog 248 [.ref 1000000 1 0 0, .c (.v (.int .i64 (h : Int)))] [dB ns r B p 0] [some (dB ns r B (cnt h p).2.1 (cnt h p).2.2)] (.c (.v (.int .i64 ((cnt h p).1 : Int)))))
  (hcl : ∀ h p, h ≤ 300 → p ≤ B.length → (cnt h p).1 + h ≤ 300 ∧ (cnt h p).2.1 ≤ B.length ∧ ((cnt h p).2.2 ≠ 0 → (cnt h p).1 = 0)) (p0 : Nat) (hp0 : p0 ≤ B.length) (F : (List VT × List (List UInt8)) × Nat × Int)
  (hF : F = blkS (itemS (nd.kind == 12) B val) cnt 301 [] [] p0) :
  ToldM Tryz.prog 201 [.ref 1000000 1 0 0, nd.av, .c (.v (.int .i64 (dep : Int)))] [dB ns r B p0 0] [some (dB ns r B F.2.1 F.2.2)] (.tup [.c (.sl 6 (F.1.1.map VT.cells)), .c (.sl 1 (F.1.2.map sPV))]) := by
 rw [blkS] at hF
 have hC0 := hC 0 p0 (by decide) hp0
 have hl0 := hcl 0 p0 (by decide) hp0
 simp only [List.length_nil] at hF
 obtain ⟨m0, q0, x0, hc0⟩ : ∃ a b c, cnt 0 p0 = (a, b, c) := ⟨_, _, _, rfl⟩
 rw [hc0] at hC0 hl0 hF
 simp only [] at hC0 hl0 hF
 rw [show ((0 : Nat) : Int) = 0 from rfl] at hC0
 rw [NT.av_eq]
 unfold dB at *
 refine VC.toldX ent_201 [] Tryz.func201 rfl Tryz.ntmps201 fun hb hbL => ?_
 clear hb hbL
 refine walkG ?_
 refine walkL [1000000] (hC0) ?_
 refine walkG ?_
 refine VC.nil 6 43 6 (by rfl) (by trivial) (by rfl) ?_
 refine VC.nil 7 9 1 (by rfl) (by trivial) (by rfl) ?_
 generalize hm12 : (nd.kind == 12) = M at hF
 refine VC.loop (ι := {s : (List VT × List (List UInt8) × Nat) × Nat × Int × Nat // s.1.1.length + s.2.1 ≤ 300 ∧ s.1.2.1.length ≤ s.1.1.length ∧ s.1.2.2 ≤ B.length ∧ (s.2.2.1 ≠ 0 → s.2.1 = 0) ∧ 300 ≤ s.1.1.length + s.2.2.2 ∧ F = headS (blkS (itemS M B val) cnt s.2.2.2) (itemS M B val) s.2.1 s.1.1 s.1.2.1 s.1.2.2 s.2.2.1})
  (fun s => [(0, .ref 1000000 1 0 0), (2, .c (.v (.int .i64 (dep : Int)))), (4, .ref 0 1 0 0), (6, .row 48 s.1.1.1.length), (7, .row 56 s.1.1.2.1.length), (8, .c (.v (.int .i64 (s.1.2.1 : Int))))])
  (fun s => [(0, ⟨false, 33, 10, [nd.cells.map .c]⟩), (48, ⟨true, 43, 6, rA VT.cells s.1.1.1⟩), (56, ⟨true, 9, 1, rA sPV s.1.1.2.1⟩), (1000000, ⟨false, 109, 5, [[.c (.sl 10 (ns.map NT.cells)), .c (.v (.int .i64 r)), .c (.sl 1 (bytePV B)), .c (.v (.int .i64 (s.1.1.2.2 : Int))), .c (.v (.int .i64 s.1.2.2.1))]]⟩)]) 800 (fun s => s.1.2.2.2)
  ⟨(([], [], q0), m0, x0, 300), by simpa using hl0.1, by simp, hl0.2.1, hl0.2.2, by simp, hF⟩ ?_ ?_
 · simp only [ncells_mk, rA_len, rA_sc, Weak, eq_self, used_is, sc_any, sc_c, sc_pp, sc_ref, sc_row, sc_agg, sc_fn, ScL, some_imp, List.forall_mem_map, go_sem, Int.reduceBEq, Int.reduceLE, Int.reduceLT, Int.reduceNeg, Nat.reduceAdd, Nat.reduceEqDiff, Nat.reduceLT, Nat.reduceLeDiff, Nat.reduceMul, Nat.reduceSub, reduceCtorEq, ↓reduceIte]
   exact ⟨rfl, rfl⟩
 rintro ⟨⟨⟨xs, ks, p⟩, m, e, k⟩, h1, h2, h3, h4, h5, h6⟩
 simp only [] at h1 h2 h3 h4 h5 h6 ⊢
 refine walkG ?_
 refine VC.cond (by rfl) (by trivial) (fun hc => ?_) (fun hc => ?_)
 rotate_left
 · have hm0 : m = 0 := by simp at hc; omega
   subst hm0
   rw [headS, if_pos rfl] at h6
   subst h6
   refine walkGF (@rA_len) ?_
   refine ⟨by first | exact .inr rfl | exact .inl rfl, ?_⟩; rw [Tryz.results201]; simp only [rA_len, rA_ren, resOk, resV, go_sem, simprocAttr]
   exact ⟨frz_rA (f := VT.cells) (l := xs) (T := 43) rfl rfl rfl fun x _ => len_vcells x, frz_rA (f := sPV) (l := ks) (T := 9) rfl rfl rfl fun x _ => rfl⟩
 have hm0 : 0 < m := by simp at hc; omega
 have he0 : e = 0 := Decidable.not_not.1 fun h => by have := h4 h; omega
 subst he0
 rw [headS, if_neg (by omega)] at h6
 refine walkG ?_
 obtain ⟨RW, hRW⟩ : ∃ RW, RW = rowS (itemS M B val) m xs ks p := ⟨_, rfl⟩
 rw [← hRW] at h6
 refine VC.loop (ι := {s : Nat × List VT × List (List UInt8) × Nat // s.1 ≤ m ∧ s.2.1.length = xs.length + s.1 ∧ s.2.2.1.length ≤ s.2.1.length ∧ s.2.2.2 ≤ B.length ∧ RW = rowS (itemS M B val) (m - s.1) s.2.1 s.2.2.1 s.2.2.2})
  (fun s => [(0, .ref 1000000 1 0 0), (2, .c (.v (.int .i64 (dep : Int)))), (4, .ref 0 1 0 0), (6, .row 48 s.1.2.1.length), (7, .row 56 s.1.2.2.1.length), (17, .c (.v (.int .i64 (m : Int)))), (18, .c (.v (.int .i64 (s.1.1 : Int))))])
  (fun s => [(0, ⟨false, 33, 10, [nd.cells.map .c]⟩), (48, ⟨true, 43, 6, rA VT.cells s.1.2.1⟩), (56, ⟨true, 9, 1, rA sPV s.1.2.2.1⟩), (1000000, ⟨false, 109, 5, [[.c (.sl 10 (ns.map NT.cells)), .c (.v (.int .i64 r)), .c (.sl 1 (bytePV B)), .c (.v (.int .i64 (s.1.2.2.2 : Int))), .c (.v (.int .i64 0))]]⟩)]) 2000 (fun s => m - s.1.1)
  ⟨(0, xs, ks, p), Nat.zero_le _, rfl, h2, h3, hRW⟩ ?_ ?_
 · simp only [ncells_mk, rA_len, rA_sc, Weak, eq_self, used_is, sc_any, sc_c, sc_pp, sc_ref, sc_row, sc_agg, sc_fn, ScL, some_imp, List.forall_mem_map, go_sem, Int.reduceBEq, Int.reduceLE, Int.reduceLT, Int.reduceNeg, Nat.reduceAdd, Nat.reduceEqDiff, Nat.reduceLT, Nat.reduceLeDiff, Nat.reduceMul, Nat.reduceSub, reduceCtorEq, ↓reduceIte]
   exact ⟨Nat.le_refl _, Nat.le_refl _⟩
 rintro ⟨⟨i, ys, js, q⟩, i1, i2, i3, i4, i5⟩
 simp only [] at i1 i2 i3 i4 i5 ⊢
 have hyl : (rA VT.cells ys).length = ys.length := rA_len _ _
 have hjl : (rA sPV js).length = js.length := rA_len _ _
 refine walkG ?_
 refine VC.cond (by rfl) (by trivial) (fun hd => ?_) (fun hd => ?_)
 rotate_left
 · have hie : i = m := by simp at hd; omega
   rw [hie, Nat.sub_self, rowS] at i5
   rw [i5] at h6
   simp only [] at h6
   obtain ⟨k, rfl⟩ : ∃ k', k = k' + 1 := ⟨k - 1, by omega⟩
   rw [blkS] at h6
   have hC1 := hC ys.length q (by omega) i4
   have hl1 := hcl ys.length q (by omega) i4
   obtain ⟨m1, q1, x1, hc1⟩ : ∃ a b c, cnt ys.length q = (a, b, c) := ⟨_, _, _, rfl⟩
   rw [hc1] at hC1 hl1 h6
   simp only [] at hC1 hl1 h6
   refine walkGF (hyl) ?_
   refine walkLF (And.intro @rA_ren @rA_len) [1000000] (hC1) ?_
   refine walkG ?_
   refine .next ⟨((ys, js, q1), m1, x1, k), by simp only []; omega, i3, hl1.2.1, hl1.2.2, by simp only []; omega, h6⟩ ?_ (by simp only []; omega)
   simp only [ncells_mk, rA_len, rA_sc, Weak, eq_self, used_is, sc_any, sc_c, sc_pp, sc_ref, sc_row, sc_agg, sc_fn, ScL, some_imp, List.forall_mem_map, go_sem, Int.reduceBEq, Int.reduceLE, Int.reduceLT, Int.reduceNeg, Nat.reduceAdd, Nat.reduceEqDiff, Nat.reduceLT, Nat.reduceLeDiff, Nat.reduceMul, Nat.reduceSub, reduceCtorEq, ↓reduceIte]
   exact ⟨Nat.le_refl _, Nat.le_refl _⟩
 have hlt : i < m := by simp at hd; omega
 obtain ⟨z, hz⟩ : ∃ z, m - i = z + 1 := ⟨m - i - 1, by omega⟩
 have hz' : m - (i + 1) = z := by omega
 rw [hz, rowS] at i5
 have hw : IntKind.i64.wrap ((i : Int) + 1) = ((i + 1 : Nat) : Int) := by rw [wrap64_id (by omega) (by omega)]; omega
 cases M with
 | true =>
   have e12 : (nd.kind == 12) = true := hm12
   have hT := dtext_told ns r B q (lft rtext [] B q 0).2.1 0 (lft rtext [] B q 0).2.2 (lft rtext [] B q 0).1 (wtext_told B hB q i4 0)
   have htl := (got_lft fair_text [] i4 0).le
   rw [itemS, if_pos rfl] at i5
   obtain ⟨y, q1, e1, hL⟩ : ∃ a b c, lft rtext [] B q 0 = (a, b, c) := ⟨_, _, _, rfl⟩
   rw [hL] at hT htl i5
   simp only [] at hT htl i5
   have hX := hV q1 e1 htl
   have hql := hle q1 e1 htl
   obtain ⟨v, q2, e2, hvv⟩ : ∃ a b c, val q1 e1 = (a, b, c) := ⟨_, _, _, rfl⟩
   rw [hvv] at hX hql i5
   simp only [] at hX hql i5
   rw [VT.av_eq] at hX
   have hby : bytesOf (bytePV y) = y := bytesOf_pv y
   have hbk := pvOk19 y
   have hk1 := rA_sv js y
   unfold dB at hT hX
   by_cases h0 : e2 = 0
   · rw [if_pos h0] at i5
     subst h0
     refine walkBF (And.intro @ncells_mk e12) ?_
     refine walkLF (And.intro @rA_ren @rA_len) [1000000] (hT) ?_
     refine walkBF (And.intro @ncells_mk (And.intro hby (And.intro hbk (And.intro hk1 hjl)))) ?_
     refine walkLF (And.intro @rA_ren @rA_len) [1000000] (hX) ?_
     refine walkBF (And.intro @len_vcells (And.intro @take_vcells (And.intro @take_vcellsC (And.intro hyl (And.intro @rA_vv hw))))) ?_
     refine .next ⟨(i + 1, ys ++ [v], js ++ [y], q2), hlt, by simp only [List.length_append, List.length_singleton]; omega, by simp only [List.length_append, List.length_singleton]; omega, hql, by rw [i5, hz']⟩ ?_ (by simp only []; omega)
     simp only [ncells_mk, rA_len, rA_sc, Weak, eq_self, used_is, sc_any, sc_c, sc_pp, sc_ref, sc_row, sc_agg, sc_fn, ScL, some_imp, List.forall_mem_map, go_sem, Int.reduceBEq, Int.reduceLE, Int.reduceLT, Int.reduceNeg, Nat.reduceAdd, Nat.reduceEqDiff, Nat.reduceLT, Nat.reduceLeDiff, Nat.reduceMul, Nat.reduceSub, reduceCtorEq, ↓reduceIte]
     exact ⟨⟨by simp, by simp⟩, Nat.le_refl _, Nat.le_refl _⟩
   · rw [if_neg h0] at i5
     rw [i5] at h6
     simp only [] at h6
     subst h6
     have e0 : (e2 != 0) = true := by simpa using h0
     refine walkBF (And.intro @ncells_mk e12) ?_
     refine walkLF (And.intro @rA_ren @rA_len) [1000000] (hT) ?_
     refine walkBF (And.intro @ncells_mk (And.intro hby (And.intro hbk (And.intro hk1 hjl)))) ?_
     refine walkLF (And.intro @rA_ren @rA_len) [1000000] (hX) ?_
     refine walkBF (And.intro @len_vcells (And.intro @take_vcells (And.intro @take_vcellsC (And.intro hyl (And.intro @rA_vv e0))))) ?_
     refine ⟨by first | exact .inr rfl | exact .inl rfl, ?_⟩; rw [Tryz.results201]; simp only [rA_len, rA_ren, resOk, resV, go_sem, simprocAttr]
     exact ⟨.nil 6, .nil 1⟩
 | false =>
   have e12 : (nd.kind == 12) = false := hm12
   rw [itemS, if_neg Bool.false_ne_true] at i5
   have hX := hV q 0 i4
   have hql := hle q 0 i4
   obtain ⟨v, q2, e2, hvv⟩ : ∃ a b c, val q 0 = (a, b, c) := ⟨_, _, _, rfl⟩
   rw [hvv] at hX hql i5
   simp only [List.append_nil] at hX hql i5
   rw [VT.av_eq] at hX
   unfold dB at hX
   by_cases h0 : e2 = 0
   · rw [if_pos h0] at i5
     subst h0
     refine walkBF (And.intro @ncells_mk e12) ?_
     refine walkLF (And.intro @rA_ren @rA_len) [1000000] (hX) ?_
     refine walkBF (And.intro @len_vcells (And.intro @take_vcells (And.intro @take_vcellsC (And.intro hyl (And.intro @rA_vv hw))))) ?_
     refine .next ⟨(i + 1, ys ++ [v], js, q2), hlt, by simp only [List.length_append, List.length_singleton]; omega, by simp only [List.length_append, List.length_singleton]; omega, hql, by rw [i5, hz']⟩ ?_ (by simp only []; omega)
     simp only [ncells_mk, rA_len, rA_sc, Weak, eq_self, used_is, sc_any, sc_c, sc_pp, sc_ref, sc_row, sc_agg, sc_fn, ScL, some_imp, List.forall_mem_map, go_sem, Int.reduceBEq, Int.reduceLE, Int.reduceLT, Int.reduceNeg, Nat.reduceAdd, Nat.reduceEqDiff, Nat.reduceLT, Nat.reduceLeDiff, Nat.reduceMul, Nat.reduceSub, reduceCtorEq, ↓reduceIte]
     exact ⟨by simp, Nat.le_refl _, Nat.le_refl _⟩
   · rw [if_neg h0] at i5
     rw [i5] at h6
     simp only [] at h6
     subst h6
     have e0 : (e2 != 0) = true := by simpa using h0
     refine walkBF (And.intro @ncells_mk e12) ?_
     refine walkLF (And.intro @rA_ren @rA_len) [1000000] (hX) ?_
     refine walkBF (And.intro @len_vcells (And.intro @take_vcells (And.intro @take_vcellsC (And.intro hyl (And.intro @rA_vv e0))))) ?_
     refine ⟨by first | exact .inr rfl | exact .inl rfl, ?_⟩; rw [Tryz.results201]; simp only [rA_len, rA_ren, resOk, resV, go_sem, simprocAttr]
     exact ⟨.nil 6, .nil 1⟩
section
section
variable {P : Program} {N : Nat} {Q : Exit → ASt → Prop}
theorem VC.nilH {c : Code} {t : Nat → AV} {h : Nat → Option Blkd} {n : Nat} (j o : Nat) (T : TypeId) (z : Nat) (B : Blkd) (e : List AV) (hB : h j = some B) (hrow : B.row = false) (he : B.elems = [e]) (ho : e[o]? = some (.c (.v (.slice none 0 0)))) (hn : Nat.ble (n + 1) L0 = true)
  (hv : VC P N c ⟨t, upd (upd h n (some ⟨true, T, z, []⟩)) j (some ⟨false, B.T, B.z, [e.set o (.row n 0)]⟩), n + 8⟩ Q) : VC P N c ⟨t, h, n⟩ Q := ⟨fun C a W r => by
 obtain ⟨ro, φ, r⟩ := r
 have hn := Nat.le_of_ble_eq_true hn
 have hnu : ¬ Used n n := fun hu => by unfold Used at hu; omega
 have hjn : j ≠ n := fun e => hnu (e ▸ (r.scH j B hB).1)
 have r2 : Rel C (fun j => Used n j ∨ j = n) N t (upd h n (some ⟨true, T, z, []⟩)) ro (upd φ n (.slice none 0 0)) a W :=
  r.block (W' := W) (Keeps.refl _ _) (fun b hb => by simp [blkOf] at hb) (.inr hnu)
   ⟨fun i e he => by simp at he, fun e he => by simp at he, [], ⟨rfl, fun j x v hx => by simp at hx⟩, by rw [if_pos rfl, upd_same]; exact World.ownsRow_nil W 0 T z⟩ (fun e he => by simp at he)
 have r3 := r2.take (used' := Used (n + 8)) fun j hj => by
  unfold Used at hj ⊢
  omega
 have hB3 : upd h n (some ⟨true, T, z, []⟩) j = some B := by rw [upd_ne _ _ hjn]; exact hB
 obtain ⟨b1, b2, vs, b3, b4⟩ := r3.hp j B hB3
 have helen : e.length = B.z := b1 0 e (by rw [he]; rfl)
 have hol := (List.getElem?_eq_some_iff.1 ho).1
 rw [he, List.flatten_cons, List.flatten_nil, List.append_nil] at b3
 have hg : ∀ k B', Used (n + 8) k → upd (upd h n (some ⟨true, T, z, []⟩)) j (some ⟨false, B.T, B.z, [e.set o (.row n 0)]⟩) k = some B' → ∃ B0, upd h n (some ⟨true, T, z, []⟩) k = some B0 ∧ (B0.len < B'.len ∨ (B0.len = B'.len ∧ B0.z = B'.z ∧ upd (upd φ n (.slice none 0 0)) j (upd φ n (.slice none 0 0) j) k = upd φ n (.slice none 0 0) k)) := by
  intro k B' hk hB'
  by_cases hkj : k = j
  · subst hkj
    rw [upd_same] at hB'
    obtain rfl := Option.some.inj hB'
    exact ⟨B, hB3, .inr ⟨by unfold Blkd.len; rw [he]; rfl, rfl, by rw [upd_same]⟩⟩
  · rw [upd_ne _ _ hkj] at hB'
    exact ⟨B', hB', .inr ⟨rfl, rfl, upd_ne _ _ hkj⟩⟩
 have hnew : ∀ (i : Nat) (x : AV), (e.set o (.row n 0))[i]? = some x → (i = o ∧ x = .row n 0) ∨ (i ≠ o ∧ e[i]? = some x) := by
  intro i x hx
  by_cases hio : i = o
  · subst hio
    rw [List.getElem?_set_self hol] at hx
    exact .inl ⟨rfl, (Option.some.inj hx).symm⟩
  · rw [List.getElem?_set_ne (fun e => hio e.symm)] at hx
    exact .inr ⟨hio, hx⟩
 have hrow0 : ∀ v : Value, v = .slice none 0 0 → Rep W ro (upd (upd φ n (.slice none 0 0)) j (upd φ n (.slice none 0 0) j)) (upd (upd h n (some ⟨true, T, z, []⟩)) j (some ⟨false, B.T, B.z, [e.set o (.row n 0)]⟩)) (.row n 0) v := by
  rintro v rfl
  refine .row rfl fun B' hB' _ => ?_
  rw [upd_ne _ _ (fun e => hjn e.symm), upd_same]
 have hscn : Sc (fun k => Used (n + 8) k ∨ k = j) (upd (upd h n (some ⟨true, T, z, []⟩)) j (some ⟨false, B.T, B.z, [e.set o (.row n 0)]⟩)) (.row n 0) := by
  refine .row (.inl (by unfold Used; omega)) fun B' hB' => Nat.zero_le _
 have r4 := r3.block (W' := W) (ℓ := j) (B := ⟨false, B.T, B.z, [e.set o (.row n 0)]⟩) (v := upd φ n (.slice none 0 0) j) (Keeps.refl _ _) (fun b hb => .inr ⟨B, hB3, hb⟩)
  (.inl ⟨B, hB3, .inr ⟨by unfold Blkd.len; rw [he]; rfl, rfl, rfl⟩⟩)
  ⟨fun i e' he' => by
    match i, he' with
    | 0, he' => obtain rfl := Option.some.inj he'; simpa using helen,
   fun e' he' x hx => by
    obtain rfl := List.mem_singleton.1 he'
    obtain ⟨i, hi, hxi⟩ := List.getElem_of_mem hx
    rcases hnew i x (by rw [List.getElem?_eq_getElem hi, hxi]) with ⟨_, rfl⟩ | ⟨_, h5⟩
    · rfl
    · exact b2 e (by rw [he]; exact List.mem_singleton.2 rfl) x (List.mem_of_getElem? h5),
   vs, by
    refine ⟨by simpa using b3.1, fun i x v hx hvv => ?_⟩
    simp only [List.flatten_cons, List.flatten_nil, List.append_nil] at hx
    rcases hnew i x hx with ⟨rfl, rfl⟩ | ⟨_, h5⟩
    · exact hrow0 v (rep_prim (b3.2 i _ v ho hvv))
    · exact (b3.2 i x v h5 hvv).map ((r3.scH j B hB3).2 e (by rw [he]; exact List.mem_singleton.2 rfl) x (List.mem_of_getElem? h5)) (fun _ _ => rfl) (fun _ h => h) hg, by
    rw [if_neg (by simp)]
    rw [if_neg (by simp [hrow])] at b4
    rw [upd_same]
    exact b4⟩
  (fun e' he' x hx => by
   obtain rfl := List.mem_singleton.1 he'
   obtain ⟨i, hi, hxi⟩ := List.getElem_of_mem hx
   rcases hnew i x (by rw [List.getElem?_eq_getElem hi, hxi]) with ⟨_, rfl⟩ | ⟨_, h5⟩
   · exact hscn
   · refine ((r3.scH j B hB3).2 e (by rw [he]; exact List.mem_singleton.2 rfl) x (List.mem_of_getElem? h5)).map (fun k hk => .inl hk) fun k B' hk hB' => ?_
     obtain ⟨B0, h6, h7⟩ := hg k B' hk hB'
     exact ⟨B0, h6, by rcases h7 with h7 | h7 <;> omega⟩)
 have r5 := r4.take (used' := Used (n + 8)) fun k hk => by
  rcases hk with hk | rfl
  · exact hk
  · have := (r.scH k B hB).1
    unfold Used at this ⊢
    simp only [] at this
    omega
 exact hv.out C a W ⟨ro, _, r5⟩⟩
end
end

inductive FQ (Q : Exit → ASt → Prop) : Exit → ASt → Prop
 | frz {e : Exit} {σ : ASt} (F : List Nat) (l : List (Nat × AV)) (hl : List (Nat × Blkd)) (n : Nat) (hw : WeakF σ F l hl n) (h : Q e (st l hl n)) : FQ Q e σ
theorem VC.late {P : Program} {N : Nat} {c : Code} {σ : ASt} {Q : Exit → ASt → Prop} (h : VC P N c σ (FQ Q)) : VC P N c σ Q := ⟨fun C a W r => Code.wp_mono (fun e a' W' ⟨σ', h1, h2⟩ => by
 cases h1 with
 | frz F l hl n hw h => exact ⟨_, h, relS_frz h2 hw⟩) (h.out C a W r)⟩
def v0B (k : Int) : Blkd := ⟨false, 43, 6, [[.c (.v (.int .i64 k)), .c (.v (.int .i64 0)), .c (.v (.int .u64 0)), .c (.v (.slice none 0 0)), .c (.v (.slice none 0 0)), .c (.v (.slice none 0 0))]]⟩
def vvB (v : VT) : Blkd := ⟨false, 43, 6, [v.cells.map .c]⟩
def zc : List AV := [.c (.v (.int .i64 0)), .c (.v (.int .i64 0)), .c (.v (.int .u64 0)), .c (.v (.slice none 0 0)), .c (.v (.slice none 0 0)), .c (.v (.slice none 0 0))]
theorem zc_len (xs : List VT) : (rA VT.cells xs ++ [zc]).length = xs.length + 1 := by simp [rA_len]
theorem zc_at (xs : List VT) : (rA VT.cells xs ++ [zc])[xs.length]? = some zc := by
 rw [List.getElem?_append_right (by rw [rA_len]; exact Nat.le_refl _), rA_len, Nat.sub_self]
 rfl
theorem zc_set (xs : List VT) (v : VT) : (rA VT.cells xs ++ [zc]).set xs.length (v.cells.map .c) = rA VT.cells (xs ++ [v]) := by
 rw [List.set_append_right _ _ (by rw [rA_len]; exact Nat.le_refl _), rA_len, Nat.sub_self, List.set_cons_zero, rA_vv]
def fldS (val : Int → Nat → Int → VT × Nat × Int) : List FT → List VT → Nat → Int → List VT × Nat × Int
 | [], xs, p, e => (xs, p, e)
 | t :: ts, xs, p, e => if e = 0 then fldS val ts (xs ++ [(val t.type p 0).1]) (val t.type p 0).2.1 (val t.type p 0).2.2 else (xs, p, e)
theorem fldS_got {f : Int → Rd VT} (hf : ∀ a, Fair (f a)) {B : List UInt8} {val : Int → Nat → Int → VT × Nat × Int} : ∀ (ts : List FT) (hv : ∀ t ∈ ts, ∀ p e, p ≤ B.length → Got (f t.type B p) B e (val t.type p e).1 (val t.type p e).2.1 (val t.type p e).2.2) (xs : List VT) (p : Nat) (e : Int), p ≤ B.length →
  Got (rfields f ts xs B p) B e (fldS val ts xs p e).1 (fldS val ts xs p e).2.1 (fldS val ts xs p e).2.2
 | [], hv, xs, p, e, hp => by
   rw [fldS, rfields]
   refine ⟨hp, fun _ => rfl, fun x _ hx => ?_, fun w q' h0 hx => ?_⟩
   · unfold rret at hx; simp at hx
   · unfold rret at hx
     injection hx with hx
     injection hx with hx hx'
     exact ⟨hx, hx', h0⟩
 | t :: ts, hv, xs, p, e, hp => by
   rw [fldS, rfields]
   by_cases h : e = 0
   · rw [if_pos h]
     subst h
     have hg := hv t (by simp) p 0 hp
     have hi := hg.is (hf t.type)
     have ih := fldS_got hf ts (fun t ht => hv t (by simp [ht])) (xs ++ [(val t.type p 0).1]) (val t.type p 0).2.1 (val t.type p 0).2.2 hg.le
     by_cases h0 : (val t.type p 0).2.2 = 0
     · rw [h0] at ih ⊢
       rw [rbind_ok (hi.1 h0)]
       exact ih
     · have hno := ih.no h0
       refine got_of ih.le (fun h => absurd (hno.symm.trans h) h0) fun _ => ?_
       rw [rbind_bad (hi.2 h0), hno]
   · rw [if_neg h]
     exact ⟨hp, fun _ => rfl, fun x h0 => absurd h0 h, fun w q' h0 => absurd h0 h⟩
theorem dcomp9_told (ns : List NT) (r : Int) (B : List UInt8) (hB : B.length ≤ 1000000) (nd : NT) (hk : nd.kind = 9) (hfl : nd.fields.length ≤ 1000000) (dep : Nat) (val : Int → Nat → Int → VT × Nat × Int) (hV : ∀ t ∈ nd.fields, ValT ns r B t.type dep (val t.type)) (hle : ∀ t ∈ nd.fields, ∀ p e, p ≤ B.length → (val t.type p e).2.1 ≤ B.length)
  (p0 : Nat) (hp0 : p0 ≤ B.length) (e0 : Int) (F : List VT × Nat × Int) (hF : F = fldS val nd.fields [] p0 e0) :
  ToldM Tryz.prog 129 [.ref 1000000 1 0 0, nd.av, .ref 1000001 1 0 0, .c (.v (.int .i64 (dep : Int)))] [dB ns r B p0 e0, v0B nd.kind] [some (dB ns r B F.2.1 F.2.2), some (vvB (.mk nd.kind 0 0 [] F.1 []))] (.tup []) := by
 have e9 : (nd.kind == 9) = true := by simpa using hk
 rw [NT.av_eq]
 unfold dB v0B vvB
 rw [vcells_mk]
 refine VC.toldX ent_129 [] Tryz.func129 rfl Tryz.ntmps129 fun hb hbL => ?_
 clear hb hbL
 refine walkBF (And.intro @ncells_mk e9) ?_
 refine VC.nilH 1000001 4 43 6 ⟨false, 43, 6, [[.c (.v (.int .i64 nd.kind)), .c (.v (.int .i64 0)), .c (.v (.int .u64 0)), .c (.v (.slice none 0 0)), .c (.v (.slice none 0 0)), .c (.v (.slice none 0 0))]]⟩ [.c (.v (.int .i64 nd.kind)), .c (.v (.int .i64 0)), .c (.v (.int .u64 0)), .c (.v (.slice none 0 0)), .c (.v (.slice none 0 0)), .c (.v (.slice none 0 0))] rfl rfl rfl rfl (by rfl) ?_
 refine VC.loop (ι := {s : Nat × List VT × Nat × Int // s.1 ≤ nd.fields.length ∧ s.2.1.length = s.1 ∧ s.2.2.1 ≤ B.length ∧ F = fldS val (nd.fields.drop s.1) s.2.1 s.2.2.1 s.2.2.2})
  (fun s => [(0, .ref 1000000 1 0 0), (2, .ref 1000001 1 0 0), (3, .c (.v (.int .i64 (dep : Int)))), (5, .ref 0 1 0 0), (28, .c (.sl 9 (nd.fields.map FT.cells))), (29, .c (.v (.int .i64 (nd.fields.length : Int)))), (30, .c (.v (.int .i64 (s.1.1 : Int))))])
  (fun s => [(0, ⟨false, 33, 10, [nd.cells.map .c]⟩), (72, ⟨true, 43, 6, rA VT.cells s.1.2.1⟩), (1000001, ⟨false, 43, 6, [[.c (.v (.int .i64 nd.kind)), .c (.v (.int .i64 0)), .c (.v (.int .u64 0)), .c (.v (.slice none 0 0)), .row 72 s.1.2.1.length, .c (.v (.slice none 0 0))]]⟩),
   (1000000, ⟨false, 109, 5, [[.c (.sl 10 (ns.map NT.cells)), .c (.v (.int .i64 r)), .c (.sl 1 (bytePV B)), .c (.v (.int .i64 (s.1.2.2.1 : Int))), .c (.v (.int .i64 s.1.2.2.2))]]⟩)]) 2000 (fun s => nd.fields.length - s.1.1)
  ⟨(0, [], p0, e0), Nat.zero_le _, rfl, hp0, hF⟩ ?_ ?_
 · simp only [ncells_mk, rA_len, rA_sc, List.length_map, Weak, eq_self, used_is, sc_any, sc_c, sc_pp, sc_ref, sc_row, sc_agg, sc_fn, ScL, some_imp, List.forall_mem_map, go_sem, Int.reduceBEq, Int.reduceLE, Int.reduceLT, Int.reduceNeg, Nat.reduceAdd, Nat.reduceEqDiff, Nat.reduceLT, Nat.reduceLeDiff, Nat.reduceMul, Nat.reduceSub, reduceCtorEq, ↓reduceIte]
   all_goals first | rfl | exact ⟨rfl, rfl⟩ | exact ⟨⟨rfl, rfl⟩, rfl⟩ | skip
 rintro ⟨⟨i, xs, p, e⟩, h1, h2, h3, h4⟩
 simp only [] at h1 h2 h3 h4 ⊢
 have hxl : (rA VT.cells xs).length = xs.length := rA_len _ _
 have hend : (p, e) = (F.2.1, F.2.2) ∧ xs = F.1 → VC Tryz.prog 0 .skip (st [] [] 0) (fun _ _ => True) := fun _ => VC.skip trivial
 clear hend
 refine walkG ?_
 refine VC.cond (by rfl) (by trivial) (fun hd => ?_) (fun hd => ?_)
 rotate_left
 · have hie : i = nd.fields.length := by simp at hd; omega
   rw [hie, List.drop_length, fldS] at h4
   subst h4
   refine VC.frz [72] [] [(1000001, ⟨false, 43, 6, [(VT.mk nd.kind 0 0 [] xs []).cells.map .c]⟩), (1000000, ⟨false, 109, 5, [[.c (.sl 10 (ns.map NT.cells)), .c (.v (.int .i64 r)), .c (.sl 1 (bytePV B)), .c (.v (.int .i64 (p : Int))), .c (.v (.int .i64 e))]]⟩)] 3000 ?_ ?_
   · simp only [rA_sc, rA_len, WeakF, used_is, sc_any, sc_c, sc_pp, sc_ref, sc_row, sc_agg, sc_fn, ScL, some_imp, List.forall_mem_map, go_sem, Int.reduceBEq, Int.reduceLE, Int.reduceLT, Int.reduceNeg, Nat.reduceAdd, Nat.reduceEqDiff, Nat.reduceLT, Nat.reduceLeDiff, Nat.reduceMul, Nat.reduceSub, reduceCtorEq, ↓reduceIte]
     rw [vcells_mk]
     exact ⟨.one (.cons (.same _) (.cons (.same _) (.cons (.same _) (.cons (.nil 1) (.cons (.row (B := ⟨true, 43, 6, rA VT.cells xs⟩) (es := xs.map VT.cells) (by simp) rfl rfl (rA_len _ _) (rA_pv _ _)) (.cons (.nil 1) .nil)))))) (by simp [AV.cellish]), .same _⟩
   refine walkB ?_
   refine ⟨by first | exact .inr rfl | exact .inl rfl, ?_⟩; rw [Tryz.results129]; simp only [vcells_mk, resOk, resV, go_sem, simprocAttr]
 have hlt : i < nd.fields.length := by simp at hd; omega
 obtain ⟨fd, hx⟩ : ∃ fd, nd.fields[i]? = some fd := ⟨nd.fields[i], List.getElem?_eq_getElem hlt⟩
 have hmem := List.mem_of_getElem? hx
 have hxq : (nd.fields.map FT.cells)[i]? = some fd.cells := by rw [List.getElem?_map, hx]; rfl
 have hw : IntKind.i64.wrap ((i : Int) + 1) = ((i + 1 : Nat) : Int) := by rw [wrap64_id (by omega) (by omega)]; omega
 have hdr : nd.fields.drop i = fd :: nd.fields.drop (i + 1) := by
  rw [List.drop_eq_getElem_cons hlt]
  congr 1
  exact Option.some.inj ((List.getElem?_eq_getElem hlt).symm.trans hx)
 by_cases h0 : e = 0
 · subst h0
   have g4 := h4
   rw [hdr, fldS, if_pos rfl] at g4
   have hX := hV fd hmem p 0 h3
   have hql := hle fd hmem p 0 h3
   obtain ⟨v, q2, e2, hvv⟩ : ∃ a b c, val fd.type p 0 = (a, b, c) := ⟨_, _, _, rfl⟩
   rw [hvv] at hX hql g4
   simp only [] at hX hql g4
   rw [VT.av_eq] at hX
   unfold dB at hX
   refine walkBF (And.intro @ncells_mk (And.intro hxq (And.intro @fcells_mk (And.intro @len_fcells (And.intro @take_fcells (And.intro @take_fcellsC (And.intro @len_cells (And.intro @take_cells @take_cellsC)))))))) ?_
   refine walkLF (And.intro @rA_ren @rA_len) [1000000] (hX) ?_
   refine walkBF (And.intro @len_vcells (And.intro @take_vcells (And.intro @take_vcellsC (And.intro hxl (And.intro @rA_vv hw))))) ?_
   refine AO.stepJw rfl (J_buildC _ [.int .i64 0, .int .i64 0, .int .u64 0, .slice none 0 0, .slice none 0 0, .slice none 0 0] _ _ rfl tyA_41 rfl tyA_43 rfl (by decide) rfl (by decide) rfl rfl) ?_
   refine walkBF (And.intro @len_vcells (And.intro @take_vcells (And.intro @take_vcellsC (And.intro hxl (And.intro @rA_vv hw))))) ?_
   (refine AO.step fun K hK => ?_; simp only [go_sem, Int.reduceBEq, Int.reduceLE, Int.reduceLT, Int.reduceNeg, Nat.reduceAdd, Nat.reduceEqDiff, Nat.reduceLT, Nat.reduceLeDiff, Nat.reduceMul, Nat.reduceSub, reduceCtorEq, ↓reduceIte, len_vcells, take_vcells, take_vcellsC, hxl, rA_vv, hw]; (first | refine gsel_go ?_ | skip))
   refine ⟨⟨by simp [rA_len], by omega, by omega⟩, hK _ _ _ ?_⟩
   clear hK K
   have hz1 := zc_at xs
   have hz2 := zc_set xs v
   have hz3 := zc_len xs
   unfold zc at hz1 hz2 hz3
   refine walkBF (And.intro @len_vcells (And.intro @take_vcells (And.intro @take_vcellsC (And.intro hxl (And.intro hz1 (And.intro hz2 (And.intro hz3 hw))))))) ?_
   refine .next ⟨(i + 1, xs ++ [v], q2, e2), hlt, by simp [h2], hql, g4⟩ ?_ (by simp only []; omega)
   simp only [ncells_mk, rA_len, rA_sc, List.length_map, Weak, eq_self, used_is, sc_any, sc_c, sc_pp, sc_ref, sc_row, sc_agg, sc_fn, ScL, some_imp, List.forall_mem_map, go_sem, Int.reduceBEq, Int.reduceLE, Int.reduceLT, Int.reduceNeg, Nat.reduceAdd, Nat.reduceEqDiff, Nat.reduceLT, Nat.reduceLeDiff, Nat.reduceMul, Nat.reduceSub, reduceCtorEq, ↓reduceIte]
   all_goals first | exact ⟨by simp, by simp⟩ | simp
 · have g4 := h4
   rw [hdr, fldS, if_neg h0] at g4
   have e1 : (e != 0) = true := by simpa using h0
   refine VC.frz [72] [(0, .ref 1000000 1 0 0), (28, .c (.sl 9 (nd.fields.map FT.cells))), (30, .c (.v (.int .i64 (i : Int))))] [(1000001, ⟨false, 43, 6, [(VT.mk nd.kind 0 0 [] xs []).cells.map .c]⟩), (1000000, ⟨false, 109, 5, [[.c (.sl 10 (ns.map NT.cells)), .c (.v (.int .i64 r)), .c (.sl 1 (bytePV B)), .c (.v (.int .i64 (p : Int))), .c (.v (.int .i64 e))]]⟩)] 3000 ?_ ?_
   · simp only [rA_sc, rA_len, WeakF, used_is, sc_any, sc_c, sc_pp, sc_ref, sc_row, sc_agg, sc_fn, ScL, some_imp, List.forall_mem_map, go_sem, Int.reduceBEq, Int.reduceLE, Int.reduceLT, Int.reduceNeg, Nat.reduceAdd, Nat.reduceEqDiff, Nat.reduceLT, Nat.reduceLeDiff, Nat.reduceMul, Nat.reduceSub, reduceCtorEq, ↓reduceIte]
     rw [vcells_mk]
     exact ⟨⟨.same _, .same _, .same _⟩, .one (.cons (.same _) (.cons (.same _) (.cons (.same _) (.cons (.nil 1) (.cons (.row (B := ⟨true, 43, 6, rA VT.cells xs⟩) (es := xs.map VT.cells) (by simp) rfl rfl (rA_len _ _) (rA_pv _ _)) (.cons (.nil 1) .nil)))))) (by simp [AV.cellish]), .same _⟩
   refine walkBF (And.intro @ncells_mk (And.intro hxq (And.intro @fcells_mk (And.intro @len_fcells (And.intro @take_fcells (And.intro @take_fcellsC (And.intro @len_cells (And.intro @take_cells (And.intro @take_cellsC e1))))))))) ?_
   rw [g4]
   refine ⟨by first | exact .inr rfl | exact .inl rfl, ?_⟩; rw [Tryz.results129]; simp only [vcells_mk, resOk, resV, go_sem, simprocAttr]
def plcS (f : Rd Int) (B : List UInt8) (many p : Nat) (e : Int) : Int × Nat × Int :=
 if (lft f 0 B p e).1 < 0 ∨ (many : Int) ≤ (lft f 0 B p e).1 then (0, (lft f 0 B p e).2.1, if (lft f 0 B p e).2.2 = 0 then 11 else (lft f 0 B p e).2.2) else lft f 0 B p e
theorem plcS_got {f : Rd Int} (hf : Fair f) {B : List UInt8} (many : Nat) {p : Nat} (hp : p ≤ B.length) (e : Int) : Got (rplace f many B p) B e (plcS f B many p e).1 (plcS f B many p e).2.1 (plcS f B many p e).2.2 := by
 unfold plcS rplace
 by_cases h : e = 0
 · subst h
   have hg := got_lft hf 0 hp 0
   have hi := hg.is hf
   generalize lft f 0 B p 0 = L at hg hi
   by_cases h0 : L.2.2 = 0
   · rw [if_pos h0, rbind_ok (hi.1 h0)]
     by_cases h1 : L.1 < 0 ∨ (many : Int) ≤ L.1
     · rw [if_pos h1, if_pos h1]
       exact got_of hg.le (fun h => absurd h (show ¬ ((11 : Int) = 0) by decide)) fun _ => rfl
     · rw [if_neg h1, if_neg h1]
       exact got_of hg.le (fun _ => by rw [h0] at *; rfl) fun h => absurd h0 h
   · rw [if_neg h0, rbind_bad (hi.2 h0)]
     split
     · exact ⟨hg.le, fun h => absurd rfl h, fun x _ hx => by injection hx, fun w q' _ hx => by simp at hx⟩
     · exact ⟨hg.le, fun h => absurd rfl h, fun x _ hx => by injection hx, fun w q' _ hx => by simp at hx⟩
 · rw [lft_e _ _ _ _ h]
   refine ⟨?_, fun _ => ?_, fun x h0 => absurd h0 h, fun w q' h0 => absurd h0 h⟩
   · split <;> exact hp
   · split <;> simp [h]
theorem plcS_in {f : Rd Int} {B : List UInt8} {many p : Nat} {e : Int} (h : (plcS f B many p e).2.2 = 0) : 0 ≤ (plcS f B many p e).1 ∧ (plcS f B many p e).1 < (many : Int) := by
 unfold plcS at h ⊢
 split at h
 · simp only [] at h
   split at h
   · simp at h
   · contradiction
 · rename_i h1
   rw [if_neg h1]
   omega
theorem dplace_told {g : FuncId} (f : Rd Int) (ns : List NT) (r : Int) (B : List UInt8) (p : Nat) (e : Int) (many : Nat) (hg : Told Tryz.prog g [.agg ((rC B p e).map .c)] (.tup [.c (.v (.int .i64 (lft f 0 B p e).1)), .agg ((rC B (lft f 0 B p e).2.1 (lft f 0 B p e).2.2).map .c)])) :
  ToldM Tryz.prog 127 [.ref 1000000 1 0 0, .fn (.func g) [] [], .c (.v (.int .i64 (many : Int)))] [dB ns r B p e] [some (dB ns r B (plcS f B many p e).2.1 (plcS f B many p e).2.2)] (.c (.v (.int .i64 (plcS f B many p e).1))) := by
 have h := dplace_any ns r B p _ e _ _ many (dnumber_told ns r B p _ e _ _ hg)
 unfold plcS
 by_cases h1 : (lft f 0 B p e).1 < 0 ∨ (many : Int) ≤ (lft f 0 B p e).1
 · rw [if_pos h1, if_pos h1] at h
   rw [if_pos h1]
   exact h
 · rw [if_neg h1, if_neg h1] at h
   rw [if_neg h1]
   exact h
theorem dcomp13_told (ns : List NT) (r : Int) (B : List UInt8) (hB : B.length ≤ 1000000) (nd : NT) (hk : nd.kind = 13) (hbl : nd.branches.length ≤ 1000000) (dep : Nat) (val : Int → Nat → Int → VT × Nat × Int) (hV : ∀ a ∈ nd.branches, ValT ns r B a dep (val a))
  (p0 : Nat) (hp0 : p0 ≤ B.length) (e0 : Int) (P : Int × Nat × Int) (hP : P = plcS rlong B nd.branches.length p0 e0) (F : List VT × Nat × Int) (hF : F = if P.2.2 = 0 then ([(val (branchAt nd P.1) P.2.1 0).1], (val (branchAt nd P.1) P.2.1 0).2) else ([], P.2)) :
  ToldM Tryz.prog 129 [.ref 1000000 1 0 0, nd.av, .ref 1000001 1 0 0, .c (.v (.int .i64 (dep : Int)))] [dB ns r B p0 e0, v0B nd.kind] [some (dB ns r B F.2.1 F.2.2), some (vvB (.mk nd.kind P.1 0 [] F.1 []))] (.tup []) := by
 have e9 : (nd.kind == 9) = false := by simp; omega
 have e13 : (nd.kind == 13) = true := by simpa using hk
 have hPl := dplace_told rlong ns r B p0 e0 nd.branches.length (wlong_told B hB p0 hp0 e0)
 have hgl := (plcS_got fair_long nd.branches.length hp0 e0).le
 have hin := plcS_in (f := rlong) (B := B) (many := nd.branches.length) (p := p0) (e := e0)
 rw [← hP] at hPl hgl hin
 obtain ⟨N, q, E⟩ := P
 clear hP
 simp only [] at hPl hgl hin hF ⊢
 rw [NT.av_eq]
 unfold dB v0B vvB at *
 rw [vcells_mk]
 by_cases h0 : E = 0
 · rw [if_pos h0] at hF
   subst h0
   obtain ⟨n1, n2⟩ := hin rfl
   have hlt : N.toNat < nd.branches.length := by omega
   have hba : nd.branches[N.toNat]? = some (branchAt nd N) := by rw [branchAt, List.getElem?_eq_getElem hlt]
   have hbp : (nd.branches.map iPV)[N.toNat]? = some [.v (.int .i64 (branchAt nd N))] := by rw [List.getElem?_map, hba]; rfl
   have hX := hV _ (List.mem_of_getElem? hba) q 0 hgl
   generalize branchAt nd N = a at hX hF hbp
   obtain ⟨v, q2, e2, hvv⟩ : ∃ x y z, val a q 0 = (x, y, z) := ⟨_, _, _, rfl⟩
   rw [hvv] at hX hF
   simp only [] at hX hF
   rw [VT.av_eq] at hX
   unfold dB at hX
   subst hF
   refine VC.toldX ent_129 [] Tryz.func129 rfl Tryz.ntmps129 fun hb hbL => ?_
   clear hb hbL
   refine VC.late ?_
   refine walkBF (And.intro @ncells_mk (And.intro e9 e13)) ?_
   refine walkL [1000000] (hPl) ?_
   refine walkBF (And.intro @ncells_mk hbp) ?_
   refine walkL [1000000] (hX) ?_
   refine walkBF (And.intro @len_vcells (And.intro @take_vcells @take_vcellsC)) ?_
   refine .frz [272] [] [(1000001, ⟨false, 43, 6, [(VT.mk nd.kind N 0 [] [v] []).cells.map .c]⟩), (1000000, ⟨false, 109, 5, [[.c (.sl 10 (ns.map NT.cells)), .c (.v (.int .i64 r)), .c (.sl 1 (bytePV B)), .c (.v (.int .i64 (q2 : Int))), .c (.v (.int .i64 e2))]]⟩)] 3000 ?_ ?_
   · simp only [rA_sc, rA_len, WeakF, used_is, sc_any, sc_c, sc_pp, sc_ref, sc_row, sc_agg, sc_fn, ScL, some_imp, List.forall_mem_map, go_sem, Int.reduceBEq, Int.reduceLE, Int.reduceLT, Int.reduceNeg, Nat.reduceAdd, Nat.reduceEqDiff, Nat.reduceLT, Nat.reduceLeDiff, Nat.reduceMul, Nat.reduceSub, reduceCtorEq, ↓reduceIte]
     rw [vcells_mk]
     exact ⟨.one (.cons (.same _) (.cons (.same _) (.cons (.same _) (.cons (.nil 1) (.cons (.row (B := ⟨true, 43, 6, [v.cells.map .c]⟩) (es := [v.cells]) (by simp) rfl rfl rfl rfl) (.cons (.nil 1) .nil)))))) (by simp [AV.cellish]), .same _⟩
   refine ⟨by first | exact .inr rfl | exact .inl rfl, ?_⟩; rw [Tryz.results129]; simp only [vcells_mk, resOk, resV, go_sem, simprocAttr]
 · rw [if_neg h0] at hF
   subst hF
   have e1 : (E == 0) = false := by simpa using h0
   refine VC.toldX ent_129 [] Tryz.func129 rfl Tryz.ntmps129 fun hb hbL => ?_
   clear hb hbL
   refine VC.late ?_
   refine walkBF (And.intro @ncells_mk (And.intro e9 e13)) ?_
   refine walkL [1000000] (hPl) ?_
   refine walkBF (e1) ?_
   refine .frz [] [] [(1000001, ⟨false, 43, 6, [(VT.mk nd.kind N 0 [] [] []).cells.map .c]⟩), (1000000, ⟨false, 109, 5, [[.c (.sl 10 (ns.map NT.cells)), .c (.v (.int .i64 r)), .c (.sl 1 (bytePV B)), .c (.v (.int .i64 (q : Int))), .c (.v (.int .i64 E))]]⟩)] 3000 ?_ ?_
   · simp only [rA_sc, rA_len, WeakF, used_is, sc_any, sc_c, sc_pp, sc_ref, sc_row, sc_agg, sc_fn, ScL, some_imp, List.forall_mem_map, go_sem, Int.reduceBEq, Int.reduceLE, Int.reduceLT, Int.reduceNeg, Nat.reduceAdd, Nat.reduceEqDiff, Nat.reduceLT, Nat.reduceLeDiff, Nat.reduceMul, Nat.reduceSub, reduceCtorEq, ↓reduceIte]
     rw [vcells_mk]
     exact ⟨.one (.cons (.same _) (.cons (.same _) (.cons (.same _) (.cons (.nil 1) (.cons (.nil 6) (.cons (.nil 1) .nil)))))) (by simp [AV.cellish]), .same _⟩
   refine ⟨by first | exact .inr rfl | exact .inl rfl, ?_⟩; rw [Tryz.results129]; simp only [vcells_mk, resOk, resV, go_sem, simprocAttr]
theorem dcount_bad (ns : List NT) (r : Int) (B : List UInt8) (hB : B.length ≤ 1000000) (p : Nat) (hp : p ≤ B.length) (e : Int) (he : e ≠ 0) :
  ToldM Tryz.prog 248 [.ref 1000000 1 0 0, .c (.v (.int .i64 0))] [dB ns r B p e] [some (dB ns r B p e)] (.c (.v (.int .i64 0))) := by
 have hL := wlong_told B hB p hp e
 rw [lft_e _ _ _ _ he] at hL
 have hN := dnumber_told ns r B p p e e 0 hL
 have e1 : (e != 0) = true := by simpa using he
 have hw : IntKind.i64.wrap (300 - 0) = 300 := by decide
 have hz : decide ((0 : Int) > 300) = false := by decide
 unfold dB at *
 refine VC.toldX ent_248 [] Tryz.func248 rfl Tryz.ntmps248 fun hb hbL => ?_
 clear hb hbL
 refine walkG ?_
 refine walkL [1000000] (hN) ?_
 refine walkBF (And.intro hw (And.intro hz e1)) ?_
 refine ⟨by first | exact .inr rfl | exact .inl rfl, ?_⟩; rw [Tryz.results248]; simp only [resOk, resV, go_sem, simprocAttr]
 exact .c _
theorem ditems_bad (ns : List NT) (r : Int) (B : List UInt8) (hB : B.length ≤ 1000000) (nd : NT) (dep : Nat) (p : Nat) (hp : p ≤ B.length) (e : Int) (he : e ≠ 0) :
  ToldM Tryz.prog 201 [.ref 1000000 1 0 0, nd.av, .c (.v (.int .i64 (dep : Int)))] [dB ns r B p e] [some (dB ns r B p e)] (.tup [.c (.sl 6 (([] : List VT).map VT.cells)), .c (.sl 1 (([] : List (List UInt8)).map sPV))]) := by
 have hC := dcount_bad ns r B hB p hp e he
 have hz : decide ((0 : Int) > 0) = false := by decide
 rw [NT.av_eq]
 unfold dB at *
 refine VC.toldX ent_201 [] Tryz.func201 rfl Tryz.ntmps201 fun hb hbL => ?_
 clear hb hbL
 refine walkG ?_
 refine walkL [1000000] (hC) ?_
 refine walkG ?_
 refine VC.loop (ι := Unit) (fun _ => [(0, .ref 1000000 1 0 0), (6, .c (.v (.slice none 0 0))), (7, .c (.v (.slice none 0 0))), (8, .c (.v (.int .i64 0)))])
  (fun _ => [(1000000, ⟨false, 109, 5, [[.c (.sl 10 (ns.map NT.cells)), .c (.v (.int .i64 r)), .c (.sl 1 (bytePV B)), .c (.v (.int .i64 (p : Int))), .c (.v (.int .i64 e))]]⟩)]) 800 (fun _ => 0) () ?_ ?_
 · simp only [ncells_mk, Weak, eq_self, used_is, sc_any, sc_c, sc_pp, sc_ref, sc_row, sc_agg, sc_fn, ScL, some_imp, List.forall_mem_map, go_sem, Int.reduceBEq, Int.reduceLE, Int.reduceLT, Int.reduceNeg, Nat.reduceAdd, Nat.reduceEqDiff, Nat.reduceLT, Nat.reduceLeDiff, Nat.reduceMul, Nat.reduceSub, reduceCtorEq, ↓reduceIte]
 rintro ⟨⟩
 refine walkBF (hz) ?_
 refine ⟨by first | exact .inr rfl | exact .inl rfl, ?_⟩; rw [Tryz.results201]; simp only [resOk, resV, go_sem, simprocAttr]
 exact ⟨.nil 6, .nil 1⟩
theorem dcomp11_told (ns : List NT) (r : Int) (B : List UInt8) (nd : NT) (hk : nd.kind = 11 ∨ nd.kind = 12) (dep : Nat) (p q : Nat) (e e' : Int) (xs : List VT) (ks : List (List UInt8))
  (hI : ToldM Tryz.prog 201 [.ref 1000000 1 0 0, nd.av, .c (.v (.int .i64 (dep : Int)))] [dB ns r B p e] [some (dB ns r B q e')] (.tup [.c (.sl 6 (xs.map VT.cells)), .c (.sl 1 (ks.map sPV))])) :
  ToldM Tryz.prog 129 [.ref 1000000 1 0 0, nd.av, .ref 1000001 1 0 0, .c (.v (.int .i64 (dep : Int)))] [dB ns r B p e, v0B nd.kind] [some (dB ns r B q e'), some (vvB (.mk nd.kind 0 0 [] xs ks))] (.tup []) := by
 have e9 : (nd.kind == 9) = false := by simp; omega
 have e13 : (nd.kind == 13) = false := by simp; omega
 rw [NT.av_eq] at hI ⊢
 unfold dB v0B vvB at *
 rw [vcells_mk]
 refine VC.toldX ent_129 [] Tryz.func129 rfl Tryz.ntmps129 fun hb hbL => ?_
 clear hb hbL
 refine VC.late ?_
 refine walkBF (And.intro @ncells_mk (And.intro e9 e13)) ?_
 refine walkLF (@ncells_mk) [1000000] (hI) ?_
 refine walkB ?_
 refine .frz [] [] [(1000001, ⟨false, 43, 6, [(VT.mk nd.kind 0 0 [] xs ks).cells.map .c]⟩), (1000000, ⟨false, 109, 5, [[.c (.sl 10 (ns.map NT.cells)), .c (.v (.int .i64 r)), .c (.sl 1 (bytePV B)), .c (.v (.int .i64 (q : Int))), .c (.v (.int .i64 e'))]]⟩)] 3000 ?_ ?_
 · simp only [rA_sc, rA_len, WeakF, used_is, sc_any, sc_c, sc_pp, sc_ref, sc_row, sc_agg, sc_fn, ScL, some_imp, List.forall_mem_map, go_sem, Int.reduceBEq, Int.reduceLE, Int.reduceLT, Int.reduceNeg, Nat.reduceAdd, Nat.reduceEqDiff, Nat.reduceLT, Nat.reduceLeDiff, Nat.reduceMul, Nat.reduceSub, reduceCtorEq, ↓reduceIte]
   rw [vcells_mk]
   exact ⟨.one (.cons (.same _) (.cons (.same _) (.cons (.same _) (.cons (.nil 1) (.cons (.same _) (.cons (.same _) .nil)))))) (by simp [AV.cellish]), .same _⟩
 refine ⟨by first | exact .inr rfl | exact .inl rfl, ?_⟩; rw [Tryz.results129]; simp only [vcells_mk, resOk, resV, go_sem, simprocAttr]

theorem got_map {α β : Type} {f : Rd α} (hf : Fair f) (g : α → β) {B : List UInt8} {p : Nat} {e : Int} {x : α} {q : Nat} {e' : Int} (h : Got (f B p) B e x q e') : Got (rbind f (fun x => rret (g x)) B p) B e (g x) q e' := by
 by_cases h0 : e = 0
 · subst h0
   have hi := h.is hf
   refine got_of h.le (fun h1 => ?_) fun h1 => ?_
   · rw [rbind_ok (hi.1 h1)]; rfl
   · rw [rbind_bad (hi.2 h1)]
 · exact ⟨h.le, fun _ => h.no h0, fun x h1 => absurd h1 h0, fun w q' h1 => absurd h1 h0⟩
def ValE (ns : List NT) (r : Int) (B : List UInt8) (a : Int) (dep : Nat) (f : Rd VT) (p : Nat) (e : Int) : Prop := ∃ (v : VT) (q : Nat) (e' : Int), Got (f B p) B e v q e' ∧
 ToldM Tryz.prog 71 [.ref 1000000 1 0 0, .c (.v (.int .i64 a)), .c (.v (.int .i64 (dep : Int)))] [dB ns r B p e] [some (dB ns r B q e')] v.av
theorem dval2_told (ns : List NT) (r : Int) (B : List UInt8) (hB : B.length ≤ 1000000) (a : Nat) (nd : NT) (hnd : ns[a]? = some nd) (hk : nd.kind = 2) (dep : Nat) (p : Nat) (hp : p ≤ B.length) (e : Int) : ValE ns r B (a : Int) dep (rleaf nd) p e := by
 have hnp : (ns.map NT.cells)[a]? = some nd.cells := by rw [List.getElem?_map, hnd]; rfl
 have ha : a < ns.length := (List.getElem?_eq_some_iff.1 hnd).1
 have e2 : (nd.kind == 2) = true := by rw [hk]; rfl
 have hR : rleaf nd = rbind rbool fun x => rret (.mk nd.kind x 0 [] [] []) := by unfold rleaf; rw [if_pos hk]
 have hG := got_map fair_bool (fun x => VT.mk nd.kind x 0 [] [] []) (got_lft fair_bool 0 hp e)
 have hT := dnumber_told ns r B p _ e _ _ (wbool_told B hB p hp e)
 rw [← hR] at hG
 generalize lft rbool 0 B p e = L at hG hT
 refine ⟨_, _, _, hG, ?_⟩
 clear hG hR
 rw [VT.av_eq, vcells_mk]
 unfold dB at *
 refine VC.toldX ent_71 [] Tryz.func71 rfl Tryz.ntmps71 fun hb hbL => ?_
 clear hb hbL
 refine walkBF (And.intro hnp (And.intro @ncells_mk (And.intro @len_ncells e2))) ?_
 refine walkLF (@ncells_mk) [1000000] (hT) ?_
 refine walkBF (@ncells_mk) ?_
 refine ⟨by first | exact .inr rfl | exact .inl rfl, ?_⟩; rw [Tryz.results71]; simp only [resOk, resV, go_sem, simprocAttr]
 exact Frz.aggL (.cons (.c _) (.cons (.c _) (.cons (.c _) (.cons (.nil 1) (.cons (.nil 6) (.cons (.nil 1) .nil))))))
theorem dval3_told (ns : List NT) (r : Int) (B : List UInt8) (hB : B.length ≤ 1000000) (a : Nat) (nd : NT) (hnd : ns[a]? = some nd) (hk : nd.kind = 3) (dep : Nat) (p : Nat) (hp : p ≤ B.length) (e : Int) : ValE ns r B (a : Int) dep (rleaf nd) p e := by
 have hnp : (ns.map NT.cells)[a]? = some nd.cells := by rw [List.getElem?_map, hnd]; rfl
 have ha : a < ns.length := (List.getElem?_eq_some_iff.1 hnd).1
 have e2 : (nd.kind == 2) = false := by rw [hk]; rfl
 have e3 : (nd.kind == 3) = true := by rw [hk]; rfl
 have hR : rleaf nd = rbind rint fun x => rret (.mk nd.kind x 0 [] [] []) := by unfold rleaf; rw [if_neg (by rw [hk]; decide), if_pos hk]
 have hG := got_map fair_int (fun x => VT.mk nd.kind x 0 [] [] []) (got_lft fair_int 0 hp e)
 have hT := dnumber_told ns r B p _ e _ _ (wint_told B hB p hp e)
 rw [← hR] at hG
 generalize lft rint 0 B p e = L at hG hT
 refine ⟨_, _, _, hG, ?_⟩
 clear hG hR
 rw [VT.av_eq, vcells_mk]
 unfold dB at *
 refine VC.toldX ent_71 [] Tryz.func71 rfl Tryz.ntmps71 fun hb hbL => ?_
 clear hb hbL
 refine walkBF (And.intro hnp (And.intro @ncells_mk (And.intro @len_ncells (And.intro e2 e3)))) ?_
 refine walkLF (@ncells_mk) [1000000] (hT) ?_
 refine walkBF (@ncells_mk) ?_
 refine ⟨by first | exact .inr rfl | exact .inl rfl, ?_⟩; rw [Tryz.results71]; simp only [resOk, resV, go_sem, simprocAttr]
 exact Frz.aggL (.cons (.c _) (.cons (.c _) (.cons (.c _) (.cons (.nil 1) (.cons (.nil 6) (.cons (.nil 1) .nil))))))
theorem dval4_told (ns : List NT) (r : Int) (B : List UInt8) (hB : B.length ≤ 1000000) (a : Nat) (nd : NT) (hnd : ns[a]? = some nd) (hk : nd.kind = 4) (dep : Nat) (p : Nat) (hp : p ≤ B.length) (e : Int) : ValE ns r B (a : Int) dep (rleaf nd) p e := by
 have hnp : (ns.map NT.cells)[a]? = some nd.cells := by rw [List.getElem?_map, hnd]; rfl
 have ha : a < ns.length := (List.getElem?_eq_some_iff.1 hnd).1
 have e2 : (nd.kind == 2) = false := by rw [hk]; rfl
 have e3 : (nd.kind == 3) = false := by rw [hk]; rfl
 have e4 : (nd.kind == 4) = true := by rw [hk]; rfl
 have hR : rleaf nd = rbind rlong fun x => rret (.mk nd.kind x 0 [] [] []) := by unfold rleaf; rw [if_neg (by rw [hk]; decide), if_neg (by rw [hk]; decide), if_pos hk]
 have hG := got_map fair_long (fun x => VT.mk nd.kind x 0 [] [] []) (got_lft fair_long 0 hp e)
 have hT := dnumber_told ns r B p _ e _ _ (wlong_told B hB p hp e)
 rw [← hR] at hG
 generalize lft rlong 0 B p e = L at hG hT
 refine ⟨_, _, _, hG, ?_⟩
 clear hG hR
 rw [VT.av_eq, vcells_mk]
 unfold dB at *
 refine VC.toldX ent_71 [] Tryz.func71 rfl Tryz.ntmps71 fun hb hbL => ?_
 clear hb hbL
 refine walkBF (And.intro hnp (And.intro @ncells_mk (And.intro @len_ncells (And.intro e2 (And.intro e3 e4))))) ?_
 refine walkLF (@ncells_mk) [1000000] (hT) ?_
 refine walkBF (@ncells_mk) ?_
 refine ⟨by first | exact .inr rfl | exact .inl rfl, ?_⟩; rw [Tryz.results71]; simp only [resOk, resV, go_sem, simprocAttr]
 exact Frz.aggL (.cons (.c _) (.cons (.c _) (.cons (.c _) (.cons (.nil 1) (.cons (.nil 6) (.cons (.nil 1) .nil))))))
theorem dval5_told (ns : List NT) (r : Int) (B : List UInt8) (hB : B.length ≤ 1000000) (a : Nat) (nd : NT) (hnd : ns[a]? = some nd) (hk : nd.kind = 5) (dep : Nat) (p : Nat) (hp : p ≤ B.length) (e : Int) : ValE ns r B (a : Int) dep (rleaf nd) p e := by
 have hnp : (ns.map NT.cells)[a]? = some nd.cells := by rw [List.getElem?_map, hnd]; rfl
 have ha : a < ns.length := (List.getElem?_eq_some_iff.1 hnd).1
 have e2 : (nd.kind == 2) = false := by rw [hk]; rfl
 have e3 : (nd.kind == 3) = false := by rw [hk]; rfl
 have e4 : (nd.kind == 4) = false := by rw [hk]; rfl
 have e5 : (nd.kind == 5) = true := by rw [hk]; rfl
 have hR : rleaf nd = rbind (rbits 4) fun x => rret (.mk nd.kind 0 x [] [] []) := by unfold rleaf; rw [if_neg (by rw [hk]; decide), if_neg (by rw [hk]; decide), if_neg (by rw [hk]; decide), if_pos hk]
 have hG := got_map (fair_bits 4) (fun x => VT.mk nd.kind 0 x [] [] []) (got_lft (fair_bits 4) 0 hp e)
 have hT := wbits_told B hB p hp e 4 (by decide)
 rw [← hR] at hG
 generalize lft (rbits 4) 0 B p e = L at hG hT
 refine ⟨_, _, _, hG, ?_⟩
 clear hG hR
 rw [VT.av_eq, vcells_mk]
 unfold dB at *
 unfold rC at hT
 rw [show ((4 : Nat) : Int) = 4 from rfl] at hT
 refine VC.toldX ent_71 [] Tryz.func71 rfl Tryz.ntmps71 fun hb hbL => ?_
 clear hb hbL
 refine walkBF (And.intro hnp (And.intro @ncells_mk (And.intro @len_ncells (And.intro e2 (And.intro e3 (And.intro e4 e5)))))) ?_
 refine walkC (hT) ?_
 refine walkBF (@ncells_mk) ?_
 refine ⟨by first | exact .inr rfl | exact .inl rfl, ?_⟩; rw [Tryz.results71]; simp only [resOk, resV, go_sem, simprocAttr]
 exact Frz.aggL (.cons (.c _) (.cons (.c _) (.cons (.c _) (.cons (.nil 1) (.cons (.nil 6) (.cons (.nil 1) .nil))))))
theorem dval6_told (ns : List NT) (r : Int) (B : List UInt8) (hB : B.length ≤ 1000000) (a : Nat) (nd : NT) (hnd : ns[a]? = some nd) (hk : nd.kind = 6) (dep : Nat) (p : Nat) (hp : p ≤ B.length) (e : Int) : ValE ns r B (a : Int) dep (rleaf nd) p e := by
 have hnp : (ns.map NT.cells)[a]? = some nd.cells := by rw [List.getElem?_map, hnd]; rfl
 have ha : a < ns.length := (List.getElem?_eq_some_iff.1 hnd).1
 have e2 : (nd.kind == 2) = false := by rw [hk]; rfl
 have e3 : (nd.kind == 3) = false := by rw [hk]; rfl
 have e4 : (nd.kind == 4) = false := by rw [hk]; rfl
 have e5 : (nd.kind == 5) = false := by rw [hk]; rfl
 have e6 : (nd.kind == 6) = true := by rw [hk]; rfl
 have hR : rleaf nd = rbind (rbits 8) fun x => rret (.mk nd.kind 0 x [] [] []) := by unfold rleaf; rw [if_neg (by rw [hk]; decide), if_neg (by rw [hk]; decide), if_neg (by rw [hk]; decide), if_neg (by rw [hk]; decide), if_pos hk]
 have hG := got_map (fair_bits 8) (fun x => VT.mk nd.kind 0 x [] [] []) (got_lft (fair_bits 8) 0 hp e)
 have hT := wbits_told B hB p hp e 8 (by decide)
 rw [← hR] at hG
 generalize lft (rbits 8) 0 B p e = L at hG hT
 refine ⟨_, _, _, hG, ?_⟩
 clear hG hR
 rw [VT.av_eq, vcells_mk]
 unfold dB at *
 unfold rC at hT
 rw [show ((8 : Nat) : Int) = 8 from rfl] at hT
 refine VC.toldX ent_71 [] Tryz.func71 rfl Tryz.ntmps71 fun hb hbL => ?_
 clear hb hbL
 refine walkBF (And.intro hnp (And.intro @ncells_mk (And.intro @len_ncells (And.intro e2 (And.intro e3 (And.intro e4 (And.intro e5 e6))))))) ?_
 refine walkC (hT) ?_
 refine walkBF (@ncells_mk) ?_
 refine ⟨by first | exact .inr rfl | exact .inl rfl, ?_⟩; rw [Tryz.results71]; simp only [resOk, resV, go_sem, simprocAttr]
 exact Frz.aggL (.cons (.c _) (.cons (.c _) (.cons (.c _) (.cons (.nil 1) (.cons (.nil 6) (.cons (.nil 1) .nil))))))
theorem dval7_told (ns : List NT) (r : Int) (B : List UInt8) (hB : B.length ≤ 1000000) (a : Nat) (nd : NT) (hnd : ns[a]? = some nd) (hk : nd.kind = 7) (dep : Nat) (p : Nat) (hp : p ≤ B.length) (e : Int) : ValE ns r B (a : Int) dep (rleaf nd) p e := by
 have hnp : (ns.map NT.cells)[a]? = some nd.cells := by rw [List.getElem?_map, hnd]; rfl
 have ha : a < ns.length := (List.getElem?_eq_some_iff.1 hnd).1
 have e2 : (nd.kind == 2) = false := by rw [hk]; rfl
 have e3 : (nd.kind == 3) = false := by rw [hk]; rfl
 have e4 : (nd.kind == 4) = false := by rw [hk]; rfl
 have e5 : (nd.kind == 5) = false := by rw [hk]; rfl
 have e6 : (nd.kind == 6) = false := by rw [hk]; rfl
 have e7 : (nd.kind == 7) = true := by rw [hk]; rfl
 have hR : rleaf nd = rbind rbytes fun x => rret (.mk nd.kind 0 0 x [] []) := by unfold rleaf; rw [if_neg (by rw [hk]; decide), if_neg (by rw [hk]; decide), if_neg (by rw [hk]; decide), if_neg (by rw [hk]; decide), if_neg (by rw [hk]; decide), if_pos hk]
 have hG := got_map fair_bytes (fun x => VT.mk nd.kind 0 0 x [] []) (got_lft fair_bytes [] hp e)
 have hT := dtext_told ns r B p _ e _ _ (wbytes_told B hB p hp e)
 rw [← hR] at hG
 generalize lft rbytes [] B p e = L at hG hT
 refine ⟨_, _, _, hG, ?_⟩
 clear hG hR
 rw [VT.av_eq, vcells_mk]
 unfold dB at *
 refine VC.toldX ent_71 [] Tryz.func71 rfl Tryz.ntmps71 fun hb hbL => ?_
 clear hb hbL
 refine walkBF (And.intro hnp (And.intro @ncells_mk (And.intro @len_ncells (And.intro e2 (And.intro e3 (And.intro e4 (And.intro e5 (And.intro e6 e7)))))))) ?_
 refine walkLF (@ncells_mk) [1000000] (hT) ?_
 refine walkBF (@ncells_mk) ?_
 refine ⟨by first | exact .inr rfl | exact .inl rfl, ?_⟩; rw [Tryz.results71]; simp only [resOk, resV, go_sem, simprocAttr]
 exact Frz.aggL (.cons (.c _) (.cons (.c _) (.cons (.c _) (.cons (.c _) (.cons (.nil 6) (.cons (.nil 1) .nil))))))
theorem dval8_told (ns : List NT) (r : Int) (B : List UInt8) (hB : B.length ≤ 1000000) (a : Nat) (nd : NT) (hnd : ns[a]? = some nd) (hk : nd.kind = 8) (dep : Nat) (p : Nat) (hp : p ≤ B.length) (e : Int) : ValE ns r B (a : Int) dep (rleaf nd) p e := by
 have hnp : (ns.map NT.cells)[a]? = some nd.cells := by rw [List.getElem?_map, hnd]; rfl
 have ha : a < ns.length := (List.getElem?_eq_some_iff.1 hnd).1
 have e2 : (nd.kind == 2) = false := by rw [hk]; rfl
 have e3 : (nd.kind == 3) = false := by rw [hk]; rfl
 have e4 : (nd.kind == 4) = false := by rw [hk]; rfl
 have e5 : (nd.kind == 5) = false := by rw [hk]; rfl
 have e6 : (nd.kind == 6) = false := by rw [hk]; rfl
 have e7 : (nd.kind == 7) = false := by rw [hk]; rfl
 have e8 : (nd.kind == 8) = true := by rw [hk]; rfl
 have hR : rleaf nd = rbind rtext fun x => rret (.mk nd.kind 0 0 x [] []) := by unfold rleaf; rw [if_neg (by rw [hk]; decide), if_neg (by rw [hk]; decide), if_neg (by rw [hk]; decide), if_neg (by rw [hk]; decide), if_neg (by rw [hk]; decide), if_neg (by rw [hk]; decide), if_pos hk]
 have hG := got_map fair_text (fun x => VT.mk nd.kind 0 0 x [] []) (got_lft fair_text [] hp e)
 have hT := dtext_told ns r B p _ e _ _ (wtext_told B hB p hp e)
 rw [← hR] at hG
 generalize lft rtext [] B p e = L at hG hT
 refine ⟨_, _, _, hG, ?_⟩
 clear hG hR
 rw [VT.av_eq, vcells_mk]
 unfold dB at *
 refine VC.toldX ent_71 [] Tryz.func71 rfl Tryz.ntmps71 fun hb hbL => ?_
 clear hb hbL
 refine walkBF (And.intro hnp (And.intro @ncells_mk (And.intro @len_ncells (And.intro e2 (And.intro e3 (And.intro e4 (And.intro e5 (And.intro e6 (And.intro e7 e8))))))))) ?_
 refine walkLF (@ncells_mk) [1000000] (hT) ?_
 refine walkBF (@ncells_mk) ?_
 refine ⟨by first | exact .inr rfl | exact .inl rfl, ?_⟩; rw [Tryz.results71]; simp only [resOk, resV, go_sem, simprocAttr]
 exact Frz.aggL (.cons (.c _) (.cons (.c _) (.cons (.c _) (.cons (.c _) (.cons (.nil 6) (.cons (.nil 1) .nil))))))
theorem dval14_told (ns : List NT) (r : Int) (B : List UInt8) (hB : B.length ≤ 1000000) (a : Nat) (nd : NT) (hnd : ns[a]? = some nd) (hk : nd.kind = 14) (hsz : 0 ≤ nd.size ∧ nd.size ≤ 1000000) (dep : Nat) (p : Nat) (hp : p ≤ B.length) (e : Int) : ValE ns r B (a : Int) dep (rleaf nd) p e := by
 have hnp : (ns.map NT.cells)[a]? = some nd.cells := by rw [List.getElem?_map, hnd]; rfl
 have ha : a < ns.length := (List.getElem?_eq_some_iff.1 hnd).1
 have e2 : (nd.kind == 2) = false := by rw [hk]; rfl
 have e3 : (nd.kind == 3) = false := by rw [hk]; rfl
 have e4 : (nd.kind == 4) = false := by rw [hk]; rfl
 have e5 : (nd.kind == 5) = false := by rw [hk]; rfl
 have e6 : (nd.kind == 6) = false := by rw [hk]; rfl
 have e7 : (nd.kind == 7) = false := by rw [hk]; rfl
 have e8 : (nd.kind == 8) = false := by rw [hk]; rfl
 have e14 : (nd.kind == 14) = true := by rw [hk]; rfl
 have hR : rleaf nd = rbind (rnext nd.size.toNat) fun x => rret (.mk nd.kind 0 0 x [] []) := by unfold rleaf; rw [if_neg (by rw [hk]; decide), if_neg (by rw [hk]; decide), if_neg (by rw [hk]; decide), if_neg (by rw [hk]; decide), if_neg (by rw [hk]; decide), if_neg (by rw [hk]; decide), if_neg (by rw [hk]; decide), if_pos hk]
 have hG := got_map (fair_next nd.size.toNat) (fun x => VT.mk nd.kind 0 0 x [] []) (got_lft (fair_next nd.size.toNat) [] hp e)
 have hT := wfixed_told B hB p hp e nd.size (by omega) (by omega)
 rw [← hR] at hG
 generalize lft (rnext nd.size.toNat) [] B p e = L at hG hT
 refine ⟨_, _, _, hG, ?_⟩
 clear hG hR
 rw [VT.av_eq, vcells_mk]
 unfold dB at *
 unfold rC at hT
 refine VC.toldX ent_71 [] Tryz.func71 rfl Tryz.ntmps71 fun hb hbL => ?_
 clear hb hbL
 refine walkBF (And.intro hnp (And.intro @ncells_mk (And.intro @len_ncells (And.intro e2 (And.intro e3 (And.intro e4 (And.intro e5 (And.intro e6 (And.intro e7 (And.intro e8 e14)))))))))) ?_
 refine walkC (hT) ?_
 refine walkBF (@ncells_mk) ?_
 refine ⟨by first | exact .inr rfl | exact .inl rfl, ?_⟩; rw [Tryz.results71]; simp only [resOk, resV, go_sem, simprocAttr]
 exact Frz.aggL (.cons (.c _) (.cons (.c _) (.cons (.c _) (.cons (.c _) (.cons (.nil 6) (.cons (.nil 1) .nil))))))
theorem dval10_told (ns : List NT) (r : Int) (B : List UInt8) (hB : B.length ≤ 1000000) (a : Nat) (nd : NT) (hnd : ns[a]? = some nd) (hk : nd.kind = 10) (dep : Nat) (p : Nat) (hp : p ≤ B.length) (e : Int) : ValE ns r B (a : Int) dep (rleaf nd) p e := by
 have hnp : (ns.map NT.cells)[a]? = some nd.cells := by rw [List.getElem?_map, hnd]; rfl
 have ha : a < ns.length := (List.getElem?_eq_some_iff.1 hnd).1
 have e2 : (nd.kind == 2) = false := by rw [hk]; rfl
 have e3 : (nd.kind == 3) = false := by rw [hk]; rfl
 have e4 : (nd.kind == 4) = false := by rw [hk]; rfl
 have e5 : (nd.kind == 5) = false := by rw [hk]; rfl
 have e6 : (nd.kind == 6) = false := by rw [hk]; rfl
 have e7 : (nd.kind == 7) = false := by rw [hk]; rfl
 have e8 : (nd.kind == 8) = false := by rw [hk]; rfl
 have e14 : (nd.kind == 14) = false := by rw [hk]; rfl
 have e10 : (nd.kind == 10) = true := by rw [hk]; rfl
 have hR : rleaf nd = rbind (rplace rint nd.symbols.length) fun x => rret (.mk nd.kind x 0 [] [] []) := by unfold rleaf; rw [if_neg (by rw [hk]; decide), if_neg (by rw [hk]; decide), if_neg (by rw [hk]; decide), if_neg (by rw [hk]; decide), if_neg (by rw [hk]; decide), if_neg (by rw [hk]; decide), if_neg (by rw [hk]; decide), if_neg (by rw [hk]; decide), if_pos hk]
 have hG := got_map (fair_place fair_int _) (fun x => VT.mk nd.kind x 0 [] [] []) (plcS_got fair_int nd.symbols.length hp e)
 have hT := dplace_told rint ns r B p e nd.symbols.length (wint_told B hB p hp e)
 rw [← hR] at hG
 generalize plcS rint B nd.symbols.length p e = L at hG hT
 refine ⟨_, _, _, hG, ?_⟩
 clear hG hR
 rw [VT.av_eq, vcells_mk]
 unfold dB at *
 refine VC.toldX ent_71 [] Tryz.func71 rfl Tryz.ntmps71 fun hb hbL => ?_
 clear hb hbL
 refine walkBF (And.intro hnp (And.intro @ncells_mk (And.intro @len_ncells (And.intro e2 (And.intro e3 (And.intro e4 (And.intro e5 (And.intro e6 (And.intro e7 (And.intro e8 (And.intro e14 e10))))))))))) ?_
 refine walkLF (@ncells_mk) [1000000] (hT) ?_
 refine walkBF (@ncells_mk) ?_
 refine ⟨by first | exact .inr rfl | exact .inl rfl, ?_⟩; rw [Tryz.results71]; simp only [resOk, resV, go_sem, simprocAttr]
 exact Frz.aggL (.cons (.c _) (.cons (.c _) (.cons (.c _) (.cons (.nil 1) (.cons (.nil 6) (.cons (.nil 1) .nil))))))
theorem dval1_told (ns : List NT) (r : Int) (B : List UInt8) (a : Nat) (nd : NT) (hnd : ns[a]? = some nd) (hk : nd.kind = 1) (dep : Nat) (p : Nat) (hp : p ≤ B.length) (e : Int) : ValE ns r B (a : Int) dep (rleaf nd) p e := by
 have hnp : (ns.map NT.cells)[a]? = some nd.cells := by rw [List.getElem?_map, hnd]; rfl
 have ha : a < ns.length := (List.getElem?_eq_some_iff.1 hnd).1
 have e2 : (nd.kind == 2) = false := by rw [hk]; rfl
 have e3 : (nd.kind == 3) = false := by rw [hk]; rfl
 have e4 : (nd.kind == 4) = false := by rw [hk]; rfl
 have e5 : (nd.kind == 5) = false := by rw [hk]; rfl
 have e6 : (nd.kind == 6) = false := by rw [hk]; rfl
 have e7 : (nd.kind == 7) = false := by rw [hk]; rfl
 have e8 : (nd.kind == 8) = false := by rw [hk]; rfl
 have e14 : (nd.kind == 14) = false := by rw [hk]; rfl
 have e10 : (nd.kind == 10) = false := by rw [hk]; rfl
 have e9 : (nd.kind == 9) = false := by rw [hk]; rfl
 have e11 : (nd.kind == 11) = false := by rw [hk]; rfl
 have e12 : (nd.kind == 12) = false := by rw [hk]; rfl
 have e13 : (nd.kind == 13) = false := by rw [hk]; rfl
 have hR : rleaf nd = rret (.mk nd.kind 0 0 [] [] []) := by unfold rleaf; rw [if_neg (by rw [hk]; decide), if_neg (by rw [hk]; decide), if_neg (by rw [hk]; decide), if_neg (by rw [hk]; decide), if_neg (by rw [hk]; decide), if_neg (by rw [hk]; decide), if_neg (by rw [hk]; decide), if_neg (by rw [hk]; decide), if_neg (by rw [hk]; decide)]
 have hG : Got (rleaf nd B p) B e (VT.mk nd.kind 0 0 [] [] []) p e := by
  rw [hR]
  refine ⟨hp, fun _ => rfl, fun x _ hx => ?_, fun w q' h0 hx => ?_⟩
  · unfold rret at hx; simp at hx
  · unfold rret at hx
    injection hx with hx
    injection hx with hx hx'
    exact ⟨hx, hx', h0⟩
 refine ⟨_, _, _, hG, ?_⟩
 clear hG hR
 rw [VT.av_eq, vcells_mk]
 unfold dB at *
 refine VC.toldX ent_71 [] Tryz.func71 rfl Tryz.ntmps71 fun hb hbL => ?_
 clear hb hbL
 refine walkBF (And.intro hnp (And.intro @ncells_mk (And.intro @len_ncells (And.intro e2 (And.intro e3 (And.intro e4 (And.intro e5 (And.intro e6 (And.intro e7 (And.intro e8 (And.intro e14 (And.intro e10 (And.intro e9 (And.intro e11 (And.intro e12 e13))))))))))))))) ?_
 refine ⟨by first | exact .inr rfl | exact .inl rfl, ?_⟩; rw [Tryz.results71]; simp only [resOk, resV, go_sem, simprocAttr]
 exact Frz.aggL (.cons (.c _) (.cons (.c _) (.cons (.c _) (.cons (.nil 1) (.cons (.nil 6) (.cons (.nil 1) .nil))))))
theorem dvalc0_told (ns : List NT) (r : Int) (B : List UInt8) (a : Nat) (nd : NT) (hnd : ns[a]? = some nd) (hk : nd.kind = 9 ∨ nd.kind = 11 ∨ nd.kind = 12 ∨ nd.kind = 13) (p : Nat) (hp : p ≤ B.length) (e : Int) : ValE ns r B (a : Int) 20 (rbad 15) p e := by
 have hnp : (ns.map NT.cells)[a]? = some nd.cells := by rw [List.getElem?_map, hnd]; rfl
 have ha : a < ns.length := (List.getElem?_eq_some_iff.1 hnd).1
 have e2 : (nd.kind == 2) = false := by rcases hk with h | h | h | h <;> rw [h] <;> rfl
 have e3 : (nd.kind == 3) = false := by rcases hk with h | h | h | h <;> rw [h] <;> rfl
 have e4 : (nd.kind == 4) = false := by rcases hk with h | h | h | h <;> rw [h] <;> rfl
 have e5 : (nd.kind == 5) = false := by rcases hk with h | h | h | h <;> rw [h] <;> rfl
 have e6 : (nd.kind == 6) = false := by rcases hk with h | h | h | h <;> rw [h] <;> rfl
 have e7 : (nd.kind == 7) = false := by rcases hk with h | h | h | h <;> rw [h] <;> rfl
 have e8 : (nd.kind == 8) = false := by rcases hk with h | h | h | h <;> rw [h] <;> rfl
 have e14 : (nd.kind == 14) = false := by rcases hk with h | h | h | h <;> rw [h] <;> rfl
 have e10 : (nd.kind == 10) = false := by rcases hk with h | h | h | h <;> rw [h] <;> rfl
 have hT := dfail_told ns r B p e 15
 have hG : Got ((rbad 15 : Rd VT) B p) B e (VT.mk nd.kind 0 0 [] [] []) p (if e = 0 then 15 else e) := by
  refine ⟨hp, fun h => if_neg h, fun x h hx => ?_, fun w q' h0 hx => ?_⟩
  · unfold rbad at hx
    injection hx with hx
    rw [if_pos h, hx]
  · unfold rbad at hx; simp at hx
 generalize (if e = 0 then (15 : Int) else e) = E at hT hG
 refine ⟨_, _, _, hG, ?_⟩
 clear hG
 have e20 : ((20 : Int) == 20) = true := rfl
 rw [VT.av_eq, vcells_mk]
 unfold dB at *
 have hcase : ∀ (b9 b11 b12 b13 : Bool), (nd.kind == 9) = b9 → (nd.kind == 11) = b11 → (nd.kind == 12) = b12 → (nd.kind == 13) = b13 → (b9 = true ∨ (b9 = false ∧ b11 = true) ∨ (b9 = false ∧ b11 = false ∧ b12 = true) ∨ (b9 = false ∧ b11 = false ∧ b12 = false ∧ b13 = true)) → ToldM Tryz.prog 71 [.ref 1000000 1 0 0, .c (.v (.int .i64 (a : Int))), .c (.v (.int .i64 ((20 : Nat) : Int)))] [⟨false, 109, 5, [[.c (.sl 10 (ns.map NT.cells)), .c (.v (.int .i64 r)), .c (.sl 1 (bytePV B)), .c (.v (.int .i64 (p : Int))), .c (.v (.int .i64 e))]]⟩] [some ⟨false, 109, 5, [[.c (.sl 10 (ns.map NT.cells)), .c (.v (.int .i64 r)), .c (.sl 1 (bytePV B)), .c (.v (.int .i64 (p : Int))), .c (.v (.int .i64 E))]]⟩]
   (.agg ([PV.v (.int .i64 nd.kind), .v (.int .i64 0), .v (.int .u64 0), .sl 1 (bytePV []), .sl 6 (([] : List VT).map VT.cells), .sl 1 (([] : List (List UInt8)).map sPV)].map .c)) := by
  intro b9 b11 b12 b13 g9 g11 g12 g13 hb
  rw [show ((20 : Nat) : Int) = 20 from rfl]
  rcases hb with rfl | ⟨rfl, rfl⟩ | ⟨rfl, rfl, rfl⟩ | ⟨rfl, rfl, rfl, rfl⟩
  · refine VC.toldX ent_71 [] Tryz.func71 rfl Tryz.ntmps71 fun hb hbL => ?_
    clear hb hbL
    refine walkBF (And.intro hnp (And.intro @ncells_mk (And.intro @len_ncells (And.intro e2 (And.intro e3 (And.intro e4 (And.intro e5 (And.intro e6 (And.intro e7 (And.intro e8 (And.intro e14 (And.intro e10 (And.intro g9 e20))))))))))))) ?_
    refine walkLF (@ncells_mk) [1000000] (hT) ?_
    refine walkBF (@ncells_mk) ?_
    refine ⟨by first | exact .inr rfl | exact .inl rfl, ?_⟩; rw [Tryz.results71]; simp only [resOk, resV, go_sem, simprocAttr]
    exact Frz.aggL (.cons (.c _) (.cons (.c _) (.cons (.c _) (.cons (.nil 1) (.cons (.nil 6) (.cons (.nil 1) .nil))))))
  · refine VC.toldX ent_71 [] Tryz.func71 rfl Tryz.ntmps71 fun hb hbL => ?_
    clear hb hbL
    refine walkBF (And.intro hnp (And.intro @ncells_mk (And.intro @len_ncells (And.intro e2 (And.intro e3 (And.intro e4 (And.intro e5 (And.intro e6 (And.intro e7 (And.intro e8 (And.intro e14 (And.intro e10 (And.intro g9 (And.intro g11 e20)))))))))))))) ?_
    refine walkLF (@ncells_mk) [1000000] (hT) ?_
    refine walkBF (@ncells_mk) ?_
    refine ⟨by first | exact .inr rfl | exact .inl rfl, ?_⟩; rw [Tryz.results71]; simp only [resOk, resV, go_sem, simprocAttr]
    exact Frz.aggL (.cons (.c _) (.cons (.c _) (.cons (.c _) (.cons (.nil 1) (.cons (.nil 6) (.cons (.nil 1) .nil))))))
  · refine VC.toldX ent_71 [] Tryz.func71 rfl Tryz.ntmps71 fun hb hbL => ?_
    clear hb hbL
    refine walkBF (And.intro hnp (And.intro @ncells_mk (And.intro @len_ncells (And.intro e2 (And.intro e3 (And.intro e4 (And.intro e5 (And.intro e6 (And.intro e7 (And.intro e8 (And.intro e14 (And.intro e10 (And.intro g9 (And.intro g11 (And.intro g12 e20))))))))))))))) ?_
    refine walkLF (@ncells_mk) [1000000] (hT) ?_
    refine walkBF (@ncells_mk) ?_
    refine ⟨by first | exact .inr rfl | exact .inl rfl, ?_⟩; rw [Tryz.results71]; simp only [resOk, resV, go_sem, simprocAttr]
    exact Frz.aggL (.cons (.c _) (.cons (.c _) (.cons (.c _) (.cons (.nil 1) (.cons (.nil 6) (.cons (.nil 1) .nil))))))
  · refine VC.toldX ent_71 [] Tryz.func71 rfl Tryz.ntmps71 fun hb hbL => ?_
    clear hb hbL
    refine walkBF (And.intro hnp (And.intro @ncells_mk (And.intro @len_ncells (And.intro e2 (And.intro e3 (And.intro e4 (And.intro e5 (And.intro e6 (And.intro e7 (And.intro e8 (And.intro e14 (And.intro e10 (And.intro g9 (And.intro g11 (And.intro g12 (And.intro g13 e20)))))))))))))))) ?_
    refine walkLF (@ncells_mk) [1000000] (hT) ?_
    refine walkBF (@ncells_mk) ?_
    refine ⟨by first | exact .inr rfl | exact .inl rfl, ?_⟩; rw [Tryz.results71]; simp only [resOk, resV, go_sem, simprocAttr]
    exact Frz.aggL (.cons (.c _) (.cons (.c _) (.cons (.c _) (.cons (.nil 1) (.cons (.nil 6) (.cons (.nil 1) .nil))))))
 refine hcase _ _ _ _ rfl rfl rfl rfl ?_
 rcases hk with h | h | h | h <;> rw [h] <;> simp
theorem dvalc_told (ns : List NT) (r : Int) (B : List UInt8) (a : Nat) (nd : NT) (hnd : ns[a]? = some nd) (hk : nd.kind = 9 ∨ nd.kind = 11 ∨ nd.kind = 12 ∨ nd.kind = 13) (dep : Nat) (hd : dep < 20) (p q : Nat) (e e' : Int) (v : VT)
  (hT : ToldM Tryz.prog 129 [.ref 1000000 1 0 0, nd.av, .ref 1000001 1 0 0, .c (.v (.int .i64 ((dep + 1 : Nat) : Int)))] [dB ns r B p e, v0B nd.kind] [some (dB ns r B q e'), some (vvB v)] (.tup [])) :
  ToldM Tryz.prog 71 [.ref 1000000 1 0 0, .c (.v (.int .i64 (a : Int))), .c (.v (.int .i64 (dep : Int)))] [dB ns r B p e] [some (dB ns r B q e')] v.av := by
 have hnp : (ns.map NT.cells)[a]? = some nd.cells := by rw [List.getElem?_map, hnd]; rfl
 have ha : a < ns.length := (List.getElem?_eq_some_iff.1 hnd).1
 have e2 : (nd.kind == 2) = false := by rcases hk with h | h | h | h <;> rw [h] <;> rfl
 have e3 : (nd.kind == 3) = false := by rcases hk with h | h | h | h <;> rw [h] <;> rfl
 have e4 : (nd.kind == 4) = false := by rcases hk with h | h | h | h <;> rw [h] <;> rfl
 have e5 : (nd.kind == 5) = false := by rcases hk with h | h | h | h <;> rw [h] <;> rfl
 have e6 : (nd.kind == 6) = false := by rcases hk with h | h | h | h <;> rw [h] <;> rfl
 have e7 : (nd.kind == 7) = false := by rcases hk with h | h | h | h <;> rw [h] <;> rfl
 have e8 : (nd.kind == 8) = false := by rcases hk with h | h | h | h <;> rw [h] <;> rfl
 have e14 : (nd.kind == 14) = false := by rcases hk with h | h | h | h <;> rw [h] <;> rfl
 have e10 : (nd.kind == 10) = false := by rcases hk with h | h | h | h <;> rw [h] <;> rfl
 have e20 : ((dep : Int) == 20) = false := by simp; omega
 have hw : IntKind.i64.wrap ((dep : Int) + 1) = ((dep + 1 : Nat) : Int) := by rw [wrap64_id (by omega) (by omega)]; omega
 rw [NT.av_eq] at hT
 rw [VT.av_eq]
 unfold dB v0B vvB at *
 have hvl := len_vcells v
 have hvt := take_vcellsC v
 generalize v.cells = vc at hT hvl hvt
 have hcase : ∀ (b9 b11 b12 b13 : Bool), (nd.kind == 9) = b9 → (nd.kind == 11) = b11 → (nd.kind == 12) = b12 → (nd.kind == 13) = b13 → (b9 = true ∨ (b9 = false ∧ b11 = true) ∨ (b9 = false ∧ b11 = false ∧ b12 = true) ∨ (b9 = false ∧ b11 = false ∧ b12 = false ∧ b13 = true)) → ToldM Tryz.prog 71 [.ref 1000000 1 0 0, .c (.v (.int .i64 (a : Int))), .c (.v (.int .i64 (dep : Int)))] [⟨false, 109, 5, [[.c (.sl 10 (ns.map NT.cells)), .c (.v (.int .i64 r)), .c (.sl 1 (bytePV B)), .c (.v (.int .i64 (p : Int))), .c (.v (.int .i64 e))]]⟩] [some ⟨false, 109, 5, [[.c (.sl 10 (ns.map NT.cells)), .c (.v (.int .i64 r)), .c (.sl 1 (bytePV B)), .c (.v (.int .i64 (q : Int))), .c (.v (.int .i64 e'))]]⟩] (.agg (vc.map .c)) := by
  intro b9 b11 b12 b13 g9 g11 g12 g13 hb
  rcases hb with rfl | ⟨rfl, rfl⟩ | ⟨rfl, rfl, rfl⟩ | ⟨rfl, rfl, rfl, rfl⟩
  · refine VC.toldX ent_71 [] Tryz.func71 rfl Tryz.ntmps71 fun hb hbL => ?_
    clear hb hbL
    refine walkBF (And.intro hnp (And.intro @ncells_mk (And.intro @len_ncells (And.intro e2 (And.intro e3 (And.intro e4 (And.intro e5 (And.intro e6 (And.intro e7 (And.intro e8 (And.intro e14 (And.intro e10 (And.intro g9 (And.intro e20 hw)))))))))))))) ?_
    refine walkLF (@ncells_mk) [1000000, 112] (hT) ?_
    refine walkBF (And.intro @ncells_mk (And.intro hvl hvt)) ?_
    refine ⟨by first | exact .inr rfl | exact .inl rfl, ?_⟩; rw [Tryz.results71]; simp only [resOk, resV, go_sem, simprocAttr]
    refine ⟨by omega, ?_⟩
    (try rw [hvt])
    exact .cs _ _
  · refine VC.toldX ent_71 [] Tryz.func71 rfl Tryz.ntmps71 fun hb hbL => ?_
    clear hb hbL
    refine walkBF (And.intro hnp (And.intro @ncells_mk (And.intro @len_ncells (And.intro e2 (And.intro e3 (And.intro e4 (And.intro e5 (And.intro e6 (And.intro e7 (And.intro e8 (And.intro e14 (And.intro e10 (And.intro g9 (And.intro g11 (And.intro e20 hw))))))))))))))) ?_
    refine walkLF (@ncells_mk) [1000000, 112] (hT) ?_
    refine walkBF (And.intro @ncells_mk (And.intro hvl hvt)) ?_
    refine ⟨by first | exact .inr rfl | exact .inl rfl, ?_⟩; rw [Tryz.results71]; simp only [resOk, resV, go_sem, simprocAttr]
    refine ⟨by omega, ?_⟩
    (try rw [hvt])
    exact .cs _ _
  · refine VC.toldX ent_71 [] Tryz.func71 rfl Tryz.ntmps71 fun hb hbL => ?_
    clear hb hbL
    refine walkBF (And.intro hnp (And.intro @ncells_mk (And.intro @len_ncells (And.intro e2 (And.intro e3 (And.intro e4 (And.intro e5 (And.intro e6 (And.intro e7 (And.intro e8 (And.intro e14 (And.intro e10 (And.intro g9 (And.intro g11 (And.intro g12 (And.intro e20 hw)))))))))))))))) ?_
    refine walkLF (@ncells_mk) [1000000, 112] (hT) ?_
    refine walkBF (And.intro @ncells_mk (And.intro hvl hvt)) ?_
    refine ⟨by first | exact .inr rfl | exact .inl rfl, ?_⟩; rw [Tryz.results71]; simp only [resOk, resV, go_sem, simprocAttr]
    refine ⟨by omega, ?_⟩
    (try rw [hvt])
    exact .cs _ _
  · refine VC.toldX ent_71 [] Tryz.func71 rfl Tryz.ntmps71 fun hb hbL => ?_
    clear hb hbL
    refine walkBF (And.intro hnp (And.intro @ncells_mk (And.intro @len_ncells (And.intro e2 (And.intro e3 (And.intro e4 (And.intro e5 (And.intro e6 (And.intro e7 (And.intro e8 (And.intro e14 (And.intro e10 (And.intro g9 (And.intro g11 (And.intro g12 (And.intro g13 (And.intro e20 hw))))))))))))))))) ?_
    refine walkLF (@ncells_mk) [1000000, 112] (hT) ?_
    refine walkBF (And.intro @ncells_mk (And.intro hvl hvt)) ?_
    refine ⟨by first | exact .inr rfl | exact .inl rfl, ?_⟩; rw [Tryz.results71]; simp only [resOk, resV, go_sem, simprocAttr]
    refine ⟨by omega, ?_⟩
    (try rw [hvt])
    exact .cs _ _
 refine hcase _ _ _ _ rfl rfl rfl rfl ?_
 rcases hk with h | h | h | h <;> rw [h] <;> simp

def idxP {α : Type} (p : α → Bool) (l : List α) : Int := match l.findIdx? p with | some i => (i : Int) | none => -1
theorem idxP_at {α : Type} {p : α → Bool} {l : List α} {i : Nat} {x : α} (h : l[i]? = some x) (hx : p x = true) (h0 : ∀ j y, j < i → l[j]? = some y → p y = false) : idxP p l = (i : Int) := by
 unfold idxP
 obtain ⟨hlt, he⟩ := List.getElem?_eq_some_iff.1 h
 have : l.findIdx? p = some i := by
  rw [List.findIdx?_eq_some_iff_getElem]
  refine ⟨hlt, by rw [he]; exact hx, fun j hj => ?_⟩
  have := h0 j _ hj (List.getElem?_eq_getElem (by omega))
  simp [this]
 rw [this]
theorem idxP_none {α : Type} {p : α → Bool} {l : List α} (h0 : ∀ j y, j < l.length → l[j]? = some y → p y = false) : idxP p l = -1 := by
 unfold idxP
 have : l.findIdx? p = none := by
  rw [List.findIdx?_eq_none_iff]
  intro x hx
  obtain ⟨j, hj, he⟩ := List.getElem_of_mem hx
  exact h0 j x hj (by rw [List.getElem?_eq_getElem hj, he])
 rw [this]
theorem idxP_any {α : Type} (p : α → Bool) (l : List α) : decide (idxP p l ≥ 0) = l.any p := by
 unfold idxP
 cases h : l.findIdx? p with
 | some i =>
   have := (List.findIdx?_eq_some_iff_getElem.1 h)
   obtain ⟨h1, h2, _⟩ := this
   have h3 : l.any p = true := List.any_eq_true.2 ⟨l[i], List.getElem_mem _, h2⟩
   rw [h3]
   simp
 | none =>
   rw [List.findIdx?_eq_none_iff] at h
   have h3 : l.any p = false := List.any_eq_false.2 fun x hx => by simpa using h x hx
   rw [h3]
   rfl
theorem sc_pureL {used : Nat → Prop} {h : Nat → Option Blkd} {l : List AV} (hp : AV.pureL l = true) : (∀ x ∈ l, Sc used h x) = True := eq_true fun x hx => (pure_ofL l hp x hx).sc
theorem pureL_app (l m : List AV) : AV.pureL (l ++ m) = (AV.pureL l && AV.pureL m) := by
 induction l with
 | nil => simp [AV.pureL]
 | cons x l ih => simp [AV.pureL, ih, Bool.and_assoc]

theorem ixfS_told {g : FuncId} {fs cs : List AV} (hp : AV.pureL fs = true) (hp' : AV.pureL cs = true) (l : List (List UInt8)) (p : List UInt8 → Bool) (hk : ∀ x ∈ l, Told Tryz.prog g (fs ++ ([.c (.v (.string (str x)))] ++ cs)) (.c (.v (.bool (p x))))) :
  Told Tryz.prog 232 [.c (.sl 1 (l.map sPV)), .fn (.func g) fs cs] (.c (.v (.int .i64 (idxP p l)))) := by
 refine VC.told ent_232 Tryz.func232 rfl Tryz.ntmps232 (by simp) (by simp [AV.pureB, AV.pureL, hp, hp']) rfl fun hb => ?_
 simp only [List.mem_cons, List.not_mem_nil, or_false, forall_eq_or_imp, forall_eq, abd_c, pbd_sl, List.length_map] at hb
 have h1 := hb.1.1
 clear hb
 refine walkG ?_
 refine VC.loop (ι := {i : Nat // i ≤ l.length ∧ ∀ j x, j < i → l[j]? = some x → p x = false}) (fun i => [(0, .c (.sl 1 (l.map sPV))), (1, .fn (.func g) fs cs), (7, .c (.v (.int .i64 l.length))), (8, .c (.v (.int .i64 i.1)))]) (fun _ => []) 0 (fun i => l.length - i.1) ⟨0, Nat.zero_le _, by intro j x hj; omega⟩ ?_ ?_
 · simp only [sc_pureL hp, sc_pureL hp', Weak, eq_self, used_is, sc_any, sc_c, sc_pp, sc_ref, sc_row, sc_agg, sc_fn, ScL, some_imp, List.forall_mem_map, go_sem, Int.reduceBEq, Int.reduceLE, Int.reduceLT, Int.reduceNeg, Nat.reduceAdd, Nat.reduceEqDiff, Nat.reduceLT, Nat.reduceLeDiff, Nat.reduceMul, Nat.reduceSub, reduceCtorEq, ↓reduceIte]
   all_goals rfl
 rintro ⟨i, hi, ht⟩
 refine walkG ?_
 refine VC.cond (by rfl) (by trivial) (fun hc => ?_) (fun hc => ?_)
 · simp only [decide_eq_true_eq] at hc
   obtain ⟨x, hx⟩ : ∃ x, l[i]? = some x := ⟨l[i]'(by omega), List.getElem?_eq_getElem _⟩
   have hw : IntKind.i64.wrap ((i : Int) + 1) = (i : Int) + 1 := wrap64_id (by omega) (by omega)
   have hkx := hk x (List.mem_of_getElem? hx)
   (repeat (first | refine pass ?_ | refine VC.region (by rfl) (by rfl) ?_ | (refine AO.step fun K hK => ?_; simp only [List.getElem?_map, hx, sPV, go_sem, Int.reduceBEq, Int.reduceLE, Int.reduceLT, Int.reduceNeg, Nat.reduceAdd, Nat.reduceEqDiff, Nat.reduceLT, Nat.reduceLeDiff, Nat.reduceMul, Nat.reduceSub, reduceCtorEq, ↓reduceIte]; (first | refine gsel_skip ?_ | refine gsel_go ?_ | skip); (first | refine hK _ _ _ ?_ | refine ⟨by first | omega | exact ⟨_, rfl, rfl⟩ | exact fun _ => ⟨_, rfl, rfl⟩ | (intro h; simp only [List.getElem?_map, hx, sPV, h, true_and]; omega) | (clear hK; intro h; simp_all <;> omega), hK _ _ _ ?_⟩); clear hK K) | refine VC.draw mixP (by rfl) (by rfl) ?_ | refine ⟨okd_of (by kernel_rfl), ?_⟩ | refine BQ.other (by decide) ?_ | refine VC.seq ?_ | refine AO.nil ?_ | refine VC.block ?_))
   ((refine AO.step fun K hK => ?_; simp only [go_sem, Int.reduceBEq, Int.reduceLE, Int.reduceLT, Int.reduceNeg, Nat.reduceAdd, Nat.reduceEqDiff, Nat.reduceLT, Nat.reduceLeDiff, Nat.reduceMul, Nat.reduceSub, reduceCtorEq, ↓reduceIte, sPV, hp, hp', pureL_app, pureL_c, List.append_assoc]; (first | refine gsel_go ?_ | skip)); refine .inl ⟨_, hkx, hK _ _ _ ?_⟩; clear hK K)
   refine walkG ?_
   refine VC.cond (by rfl) (by trivial) (fun hpx => ?_) (fun hpx => ?_)
   · have hr := idxP_at hx hpx ht
     refine walkG ?_
     refine ⟨by first | exact .inr rfl | exact .inl rfl, ?_⟩; rw [Tryz.results232]; simp only [resOk, resV, go_sem, simprocAttr]
     rw [hr]
     exact .c _
   · refine walkGF (hw) ?_
     refine .next ⟨i + 1, by omega, fun j y hj hy => ?_⟩ ?_ (by simp only []; omega)
     · rcases Nat.lt_or_ge j i with h | h
       · exact ht j y h hy
       · obtain rfl : j = i := by omega
         rw [hx] at hy
         obtain rfl := Option.some.inj hy
         exact hpx
     simp only [sc_pureL hp, sc_pureL hp', Weak, eq_self, used_is, sc_any, sc_c, sc_pp, sc_ref, sc_row, sc_agg, sc_fn, ScL, some_imp, List.forall_mem_map, go_sem, Int.reduceBEq, Int.reduceLE, Int.reduceLT, Int.reduceNeg, Nat.reduceAdd, Nat.reduceEqDiff, Nat.reduceLT, Nat.reduceLeDiff, Nat.reduceMul, Nat.reduceSub, reduceCtorEq, ↓reduceIte]
     exact cI (by omega)
 · simp only [decide_eq_false_iff_not] at hc
   obtain rfl : i = l.length := by omega
   have hr := idxP_none ht
   refine walkG ?_
   refine ⟨by first | exact .inr rfl | exact .inl rfl, ?_⟩; rw [Tryz.results232]; simp only [resOk, resV, go_sem, simprocAttr]
   rw [hr]
   exact .c _
theorem cnfS_told {g : FuncId} {fs cs : List AV} (hp : AV.pureL fs = true) (hp' : AV.pureL cs = true) (l : List (List UInt8)) (p : List UInt8 → Bool) (hk : ∀ x ∈ l, Told Tryz.prog g (fs ++ ([.c (.v (.string (str x)))] ++ cs)) (.c (.v (.bool (p x))))) :
  Told Tryz.prog 180 [.c (.sl 1 (l.map sPV)), .fn (.func g) fs cs] (.c (.v (.bool (l.any p)))) := by
 have hi := ixfS_told hp hp' l p hk
 refine VC.told ent_180 Tryz.func180 rfl Tryz.ntmps180 (by simp) (by simp [AV.pureB, AV.pureL, hp, hp']) rfl fun hb => ?_
 clear hb
 refine walkG ?_
 refine walkCF (And.intro hp hp') (hi) ?_
 refine walkG ?_
 refine ⟨by first | exact .inr rfl | exact .inl rfl, ?_⟩; rw [Tryz.results180]; simp only [resOk, resV, go_sem, simprocAttr]
 exact frz_c (by rw [idxP_any])
end
section
open Go.RowKit Go.Shelf
attribute [local go_sem] Oper.semAt_some
def upTo {α : Type} (f : Nat → α) (k : Nat) : List α := (List.range k).map f
theorem upTo_succ {α : Type} (f : Nat → α) (k : Nat) : upTo f (k + 1) = upTo f k ++ [f k] := by simp [upTo, List.range_succ]
theorem upTo_length {α : Type} (f : Nat → α) (k : Nat) : (upTo f k).length = k := by simp [upTo]
theorem upTo_all {α : Type} [Inhabited α] (zs : List α) (d : α) : upTo (fun j => zs[j]?.getD d) zs.length = zs := by
 apply List.ext_getElem
 · simp [upTo]
 · intro i h1 h2
   simp [upTo, h2]
theorem values1_in (F : Fence) (n : Nat) (h7 : F.fn 258) (hro : F.round = none) (hn : 1 ≤ n) (l Bs o n₀ b off len cap : Nat) (zs : List (List UInt8)) (hreach : len * 16 ≤ 140737488351232) (hb : b < n₀) (J Jx : List (List UInt8) → World → Prop)
  (hY : ∀ pre x W, J pre W → pre.length < len → YieldAt F (n - 1) Tryz.prog l #[.string (str x)] W fun e W' =>
   (e = .returned (.bool true) ∧ J (pre ++ [x]) W' ∧ Below n₀ W W') ∨ (e = .returned (.bool false) ∧ Jx (pre ++ [x]) W'))
  (W : World) (hBs : W.cell? ⟨Bs, o, none⟩ = some (.slice (some ⟨b, off, none⟩) len cap)) (hc : ∀ j, j < len → W.cell? ⟨b, off + j, none⟩ = some (.string (str (zs[j]?.getD [])))) (h0 : J [] W) :
  CallsIn F n Tryz.prog 258 #[.func (.yield l) #[] #[], .pointer (some ⟨Bs, o, none⟩)] W fun e W' => (∃ v, e = .returned v) ∧
   ((∃ ys, ys = upTo (fun j => zs[j]?.getD []) len ∧ J ys W') ∨ (∃ pre, (∃ k, k ≤ len ∧ pre = upTo (fun j => zs[j]?.getD []) k) ∧ Jx pre W')) := by
 refine callsIn_of_wp Tryz.func258 rfl h7 ?_ hro
 simp only [Tryz.ntmps258, List.size_toArray, List.length_cons, List.length_nil, Nat.reduceAdd, Nat.reduceSub, Array.replicate_succ, Array.replicate_zero, List.push_toArray, List.append_toArray, List.nil_append, List.cons_append]
 gi_wp2
 gi_loopw [7] (fun i wr => ∃ k : Nat, k ≤ len ∧ i = .int .i64 k ∧ J (upTo (fun j => zs[j]?.getD []) k) wr ∧ Below n₀ W wr)
  (fun i _ => len - (intOf i).toNat)
 case atStart => exact ⟨0, Nat.zero_le _, rfl, h0, Below.refl _ _⟩
 case round =>
  obtain ⟨k, hk, rfl, hJs, hnx⟩ := hrel
  have hcx : k < len → wr.cell? ⟨b, off + k, none⟩ = some (.string (str (zs[k]?.getD []))) := fun h => (hnx.cell (p := ⟨b, off + k, none⟩) hb).trans (hc k h)
  by_cases hlt : k < len
  · obtain ⟨fn, tmps, assign, body, hy, hR⟩ := hY _ (zs[k]?.getD []) wr hJs (by rw [upTo_length]; exact hlt)
    have hcx' := hcx hlt
    gi_wp2
    refine hR.mono ?_
    rintro e W3 (⟨rfl, hJ3, hk3⟩ | ⟨rfl, hJx3⟩)
    · gi_wp2
      go_roundw
      case rel => exact ⟨k + 1, by omega, by simp, by rw [upTo_succ]; exact hJ3, hnx.trans hk3⟩
      case measure => simp [intOf]; omega
    · gi_wp2
      refine bodyPost_ret (results_none rfl _ _ _) rfl ?_
      exact ⟨⟨_, rfl⟩, .inr ⟨_, ⟨k + 1, by omega, (upTo_succ _ _).symm⟩, hJx3⟩⟩
  · obtain rfl : k = len := by omega
    gi_wp2
    go_end0
    exact ⟨⟨_, rfl⟩, .inl ⟨_, rfl, hJs⟩⟩
theorem values1_nil_in (F : Fence) (n : Nat) (h7 : F.fn 258) (hro : F.round = none) (l Bs o : Nat) (J : List (List UInt8) → World → Prop) (W : World) (a : Option Addr) (c : Nat) (hBs : W.cell? ⟨Bs, o, none⟩ = some (.slice a 0 c)) (h0 : J [] W) :
  CallsIn F n Tryz.prog 258 #[.func (.yield l) #[] #[], .pointer (some ⟨Bs, o, none⟩)] W fun e W' => (∃ v, e = .returned v) ∧ J [] W' := by
 refine callsIn_of_wp Tryz.func258 rfl h7 ?_ hro
 simp only [Tryz.ntmps258, List.size_toArray, List.length_cons, List.length_nil, Nat.reduceAdd, Nat.reduceSub, Array.replicate_succ, Array.replicate_zero, List.push_toArray, List.append_toArray, List.nil_append, List.cons_append]
 gi_wp2
 gi_loopw [7] (fun i wr => i = .int .i64 0 ∧ J [] wr) (fun _ _ => 0)
 case atStart => exact ⟨rfl, h0⟩
 case round =>
  obtain ⟨rfl, hJs⟩ := hrel
  gi_wp2
  go_end0
  exact ⟨⟨_, rfl⟩, hJs⟩
theorem upTo_take (zs : List (List UInt8)) {k : Nat} (hk : k ≤ zs.length) : upTo (fun j => zs[j]?.getD []) k = zs.take k := by
 apply List.ext_getElem
 · simp [upTo, hk]
 · intro i h1 h2
   have : i < zs.length := by simp [upTo] at h1; omega
   simp [upTo, this]
def Strs (n₀ : Nat) (W : World) (sv : Value) (zs : List (List UInt8)) : Prop :=
 ∃ a cap, sv = .slice a zs.length cap ∧ (zs ≠ [] → ∃ b off, a = some ⟨b, off, none⟩ ∧ b < n₀ ∧ ∀ j, j < zs.length → W.cell? ⟨b, off + j, none⟩ = some (.string (str (zs[j]?.getD []))))
theorem Strs.below {n₀ : Nat} {A B : World} (h : Below n₀ A B) {sv : Value} {zs : List (List UInt8)} : Strs n₀ A sv zs → Strs n₀ B sv zs
 | ⟨a, cap, e, hc⟩ => ⟨a, cap, e, fun hn => by
   obtain ⟨b, off, h1, h2, h3⟩ := hc hn
   exact ⟨b, off, h1, h2, fun j hj => (h.cell (p := ⟨b, off + j, none⟩) h2).trans (h3 j hj)⟩⟩
theorem values_stops (F : Fence) (n : Nat) (h7 : F.fn 258) (hro : F.round = none) (hn : 1 ≤ n) (Bs o n₀ : Nat) (sv : Value) (zs : List (List UInt8)) (hreach : zs.length * 16 ≤ 140737488351232) (w : World) (hBs : Bs < w.heap.size) (hn₀ : n₀ ≤ w.heap.size)
  (hc : w.cell? ⟨Bs, o, none⟩ = some sv) (hI : Strs n₀ w sv zs) :
  SeqStopsK F n Tryz.prog 258 #[.pointer (some ⟨Bs, o, none⟩)] (fun x : List UInt8 => #[Value.string (str x)]) (Below n₀) (fun ys => ys = zs) (fun pre => pre <+: zs) zs.length w := fun l J Jx W hW _ _ hY h0 => by
 have hc' := (hW.cell (p := ⟨Bs, o, none⟩) hBs).trans hc
 obtain ⟨a, cap, rfl, hcs⟩ := hI.below (hW.mono hn₀)
 by_cases hz : zs = []
 · subst hz
   exact (values1_nil_in F n h7 hro l Bs o J W a cap hc' h0).mono fun e W' ⟨he, hj⟩ => ⟨he, .inl ⟨_, rfl, hj⟩⟩
 · obtain ⟨b, off, rfl, hb, hcs⟩ := hcs hz
   refine (values1_in F n h7 hro hn l Bs o n₀ b off zs.length cap zs hreach hb J Jx hY W hc' hcs h0).mono ?_
   rintro e W' ⟨he, ⟨ys, rfl, hj⟩ | ⟨pre, ⟨k, hk, rfl⟩, hj⟩⟩
   · exact ⟨he, .inl ⟨_, upTo_all zs _, hj⟩⟩
   · exact ⟨he, .inr ⟨_, by rw [upTo_take zs hk]; exact List.take_prefix _ _, hj⟩⟩
def sV (s : List UInt8) : Value := .string (str s)
theorem sinfo : (Tryz.prog.info? 9).map (fun i => (i.zero, i.size, i.bytes)) = some (some (.string ⟨#[]⟩), 1, 16) := by kernel_rfl
theorem appendSeq_in (F : Fence) (n : Nat) (h3 : F.fn 276) (h7 : F.fn 258) (hro : F.round = none) (hn : 3 ≤ n) (Bs o : Nat) (sv : Value) (zs : List (List UInt8)) (hlen : zs.length ≤ maxLen) (hbytes : zs.length * 16 ≤ 140737488351232) (w : World) (hBs : Bs < w.heap.size)
  (hc : w.cell? ⟨Bs, o, none⟩ = some sv) (hI : Strs w.heap.size w sv zs) :
  CallsIn F n Tryz.prog 276 #[.slice none 0 0, .func (.func 258) #[] #[.pointer (some ⟨Bs, o, none⟩)]] w fun e W' => ∃ v, e = .returned v ∧ W'.ownsRow w.heap.size 9 1 v zs.length (zs.map sV) ∧ Below w.heap.size w W' := by
 have h1 : 1 ≤ n := by omega
 obtain ⟨i0, hi, hz0, hz1, hz2⟩ := info_parts sinfo
 refine callsIn_of_wp_marks Tryz.func276 rfl h3 ?_ hro
 simp only [Tryz.ntmps276, List.size_toArray, List.length_cons, List.length_nil, Nat.reduceAdd, Nat.reduceSub, Array.replicate_succ, Array.replicate_zero, List.push_toArray, List.append_toArray, List.nil_append, List.cons_append]
 gi_wp2
 have bO := Boxed.new w 29 (.slice none 0 0)
 have hB0 : Below w.heap.size w (w.alloc (.cells #[.slice none 0 0] 29)) := (Below.refl _ w).alloc (Nat.le_refl _) _
 refine wpIn_rangeFunc_ownG hro h1 (gf := 258) (lb := #[.pointer (some ⟨Bs, o, none⟩)]) rfl h7 (enters_of Tryz.func258 (by kernel_rfl) rfl)
  (values_stops F (n - 1) h7 hro (by omega) Bs o w.heap.size sv zs hbytes _ (by simp; omega) (by simp) ((hB0.cell (p := ⟨Bs, o, none⟩) hBs).trans hc) (hI.below hB0)) belowK_t (belowK_b (by simp)) (Below.refl _ _) (fun _ => rfl)
  (fun pre W => (∃ v, Boxed W w.heap.size 29 v ∧ W.ownsRow w.heap.size 9 1 v pre.length (pre.map sV) ∧ (v = .slice none 0 0 ↔ pre = [])) ∧ Below w.heap.size w W)
  (fun _ _ _ => False)
  (OwnFrom.and (Own.from (holdsRow_own w.heap.size w.heap.size 29 9 1 (fun pre => pre.length) (fun pre => pre.map sV) (fun pre v => v = .slice none 0 0 ↔ pre = [])) _) (ownFrom_below (Nat.le_refl _) (by simp)))
  (fun _ _ _ _ _ hs _ _ => hs)
  ⟨⟨_, bO, World.ownsRow_nil _ _ _ _, by simp⟩, hB0⟩
  (fun x => { tmps := #[.slice none 0 0, .func (.func 258) #[] #[.pointer (some ⟨Bs, o, none⟩)], .pointer (some ⟨w.heap.size, 0, none⟩), undef, .slice none 0 0, .string (str x), .func (.func 258) #[] #[.pointer (some ⟨Bs, o, none⟩)], .string (str x), undef, undef, undef, undef, undef], defers := [] }) ?assign ?body ?done ?stop
 case assign =>
  intro l x W K hK
  gi_wp2
  exact hK
 case body =>
  rintro l pre x W ⟨⟨v, hv, hrow, hnil⟩, hB⟩ hlt
  have hc := hv.cell
  gi_wp2_with (gi_at_builtin; refine wpListIn_append_own _ rfl _ _ 29 rfl w.heap.size 9 i0 (.string ⟨#[]⟩) 1 16 Tryz.underlying29 hi hz0 hz1 hz2 rfl (by decide) _ _ _ rfl (hrow.alloc _) ⟨W.heap.size, 0, none⟩ 1 1 [.string (str x)] rfl rfl (cell_one_new _ _ _) (by simp [Value.oneCell']) (by omega) (by omega) (by have := hB.size; simp; omega) ?_; intro v' w1 hown' hgrow _; obtain ⟨g', cap', rfl⟩ := ownsRow_succ hown'; obtain ⟨hv1, hv2, hr2, hk2, hb2⟩ := hv.appended (by decide) hrow hB.size (Nat.le_refl _) hown' hgrow; have hc1 := hv1.cell; have hf1 := hv1.frozen)
  exact ⟨hk2.from _, hb2, ⟨_, hv2, by simpa [sV] using hr2, by simp⟩, hB.trans hb2⟩
 case done =>
  rintro D ys W hD rfl ⟨⟨v, hv, hrow, hnil⟩, hB⟩ hK
  have hc := hv.cell
  gi_wp2
  refine ⟨by simp, .inl ⟨_, _, rfl, run_takeDeferred hK, ?_⟩⟩
  exact ⟨_, results_tmp rfl _ _ _, v, rfl, ownsRow_putObj hrow _ hK rfl, hB.trans (belowK_b (w := w) (Nat.le_refl _) W D _ _ (by simp at hD; omega) hK rfl rfl)⟩
 case stop =>
  rintro D c pre W _ _ h _
  exact h.elim
theorem appendSeq_plain (Bs o : Nat) (sv : Value) (zs : List (List UInt8)) (hlen : zs.length ≤ maxLen) (hbytes : zs.length * 16 ≤ 140737488351232) (w : World) (hBs : Bs < w.heap.size)
  (hc : w.cell? ⟨Bs, o, none⟩ = some sv) (hI : Strs w.heap.size w sv zs) :
  Calls Tryz.prog 276 #[.slice none 0 0, .func (.func 258) #[] #[.pointer (some ⟨Bs, o, none⟩)]] w fun e W' => ∃ v, e = .returned v ∧ W'.ownsRow w.heap.size 9 1 v zs.length (zs.map sV) ∧ Below w.heap.size w W' :=
 calls_of_every_depth (L := [276, 258]) (n := 3) fun D => appendSeq_in _ 3 (by simp [Fence.list]) (by simp [Fence.list]) rfl (Nat.le_refl _) Bs o sv zs hlen hbytes w hBs hc hI
end
section
open Go.RowKit Go.Sort
def sA (l : List (List UInt8)) : List (List AV) := l.map fun s => [AV.c (.v (.string (str s)))]
def sB (l : List (List UInt8)) : Blkd := ⟨true, 9, 1, sA l⟩
theorem sA_len (l : List (List UInt8)) : (sA l).length = l.length := by simp [sA]
theorem sA_ren (ρ : Nat → Nat) (l : List (List UInt8)) : (sA l).map (AV.renL ρ) = sA l := by
 induction l with
 | nil => rfl
 | cons x l ih => show AV.renL ρ _ :: (sA l).map _ = _; rw [ih]; rfl
theorem sA_sc {used : Nat → Prop} {h : Nat → Option Blkd} (l : List (List UInt8)) : (∀ e ∈ sA l, ∀ x ∈ e, Sc used h x) = True := eq_true fun e he x hx => by
 obtain ⟨b, _, rfl⟩ := List.mem_map.1 he
 simp at hx
 subst hx
 exact .c
theorem sA_flat (l : List (List UInt8)) : (sA l).flatten = l.map fun s => AV.c (.v (.string (str s))) := by
 induction l with
 | nil => rfl
 | cons x l ih => show _ ++ (sA l).flatten = _; rw [ih]; rfl
theorem own_of_brep {W : World} {ro : Nat → Prop} {φ : Nat → Value} {h : Nat → Option Blkd} {j : Nat} {l : List (List UInt8)} (hB : BRep W ro φ h j (sB l)) : W.ownsRow 0 9 1 (φ j) l.length (l.map sV) := by
 obtain ⟨h1, h2, vs, h3, h4⟩ := hB
 rw [if_pos (show (sB l).row = true from rfl)] at h4
 have hvs : vs = l.map sV := by
  have h5 : RepL W ro φ h (l.map fun s => AV.c (.v (.string (str s)))) vs := by rw [← sA_flat]; exact h3
  apply List.ext_getElem?
  intro k
  by_cases hk : k < l.length
  · have hkv : k < vs.length := by rw [h5.1]; simpa using hk
    have := h5.2 k _ _ (by rw [List.getElem?_map, List.getElem?_eq_getElem hk]; rfl) (List.getElem?_eq_getElem hkv)
    rw [List.getElem?_eq_getElem hkv, rep_prim this, List.getElem?_map, List.getElem?_eq_getElem hk]
    rfl
  · rw [List.getElem?_eq_none (by rw [h5.1]; simpa using hk), List.getElem?_eq_none (by simpa using hk)]
 subst hvs
 have : (sB l).len = l.length := sA_len l
 rw [this] at h4
 exact h4
theorem brep_of_own {W : World} {ro : Nat → Prop} {φ : Nat → Value} {h : Nat → Option Blkd} {j : Nat} {l : List (List UInt8)} (ho : W.ownsRow 0 9 1 (φ j) l.length (l.map sV)) : BRep W ro φ h j (sB l) := by
 refine ⟨fun i e he => ?_, fun e he x hx => ?_, l.map sV, ?_, ?_⟩
 · obtain ⟨s, _, rfl⟩ := List.mem_map.1 (List.mem_of_getElem? he)
   rfl
 · obtain ⟨s, _, rfl⟩ := List.mem_map.1 he
   simp at hx
   subst hx
   rfl
 · show RepL W ro φ h (sA l).flatten _
   rw [sA_flat]
   refine ⟨by simp, fun k x v hx hv => ?_⟩
   rw [List.getElem?_map] at hx hv
   obtain ⟨s, h1, rfl⟩ := Option.map_eq_some_iff.1 hx
   rw [h1] at hv
   obtain rfl := Option.some.inj hv
   exact .c (.v rfl)
 · rw [if_pos (show (sB l).row = true from rfl)]
   have : (sB l).len = l.length := sA_len l
   rw [this]
   exact ho
theorem hok_one {W : World} {ro : Nat → Prop} {φ : Nat → Value} {B : Blkd} (hB : BRep W ro φ (LentL [some B]) 1000000 B) (ho : ∀ b, blkOf (φ 1000000) = some b → ¬ ro b) : HOk W ro φ (LentL [some B]) := by
 have key : ∀ j B1, LentL [some B] j = some B1 → j = 1000000 ∧ B1 = B := by
  intro j B1 hj
  obtain ⟨h1, h2⟩ := lentL_some hj
  have h3 := (List.getElem?_eq_some_iff.1 h2).1
  simp at h3
  obtain rfl : j = 1000000 := by omega
  simp at h2
  exact ⟨rfl, h2.symm⟩
 refine ⟨fun j B1 hj => ?_, fun j k B1 B2 b hj hk hne => ?_, fun j B1 b hj hb => ?_⟩
 · obtain ⟨rfl, rfl⟩ := key j B1 hj
   exact hB
 · exact absurd ((key j B1 hj).1.trans (key k B2 hk).1.symm) hne
 · obtain ⟨rfl, rfl⟩ := key j B1 hj
   exact ho b hb
theorem row_arg {W : World} {ro : Nat → Prop} {φ : Nat → Value} {B : Blkd} {vs : List Value} {n : Nat} (hn : B.len = n) (hl : RepL W ro φ (LentL ([B].map some)) [.row 1000000 n] vs) : vs = [φ 1000000] := by
 obtain ⟨h1, h2⟩ := hl
 match vs, h1, h2 with
 | [v], _, h2 =>
   have := h2 0 _ v rfl rfl
   cases this with
   | row _ hv => rw [hv B (by simp [LentL]) hn]
def srt (l : List (List UInt8)) : List (List UInt8) := l.mergeSort fun x y => decide (x ≤ y)
theorem srt_len (l : List (List UInt8)) : (srt l).length = l.length := by simp [srt]
theorem appendSeq_told (l : List (List UInt8)) (hl : l.length ≤ 4294967296) :
  ToldM Tryz.prog 276 [.c (.v (.slice none 0 0)), .fn (.func 258) [] [.pp [.sl 1 (l.map sPV)]]] [] [some (sB l)] (.row 1000000 l.length) := by
 refine ⟨ent_276, trivial, ⟨?_, ?_⟩, fun W ro φ vs hro hgk hal hok => ?_⟩
 · exact .row ⟨by omega, by simp⟩ fun B hB => by simp [LentL] at hB; subst hB; exact Nat.le_of_eq (sA_len l).symm
 · intro b hb B hB e he
   simp at hb
   subst hb
   obtain rfl := Option.some.inj hB
   exact fun x hx => (of_eq_true (sA_sc l)) e he x hx
 · obtain ⟨h1, h2⟩ := hal
   match vs, h1, h2 with
   | [v0, v1], _, h2 =>
     have e0 := rep_prim (h2 0 _ v0 rfl rfl)
     have e1 := h2 1 _ v1 rfl rfl
     subst e0
     cases e1 with
     | @fn _ _ _ us us' q1 q2 q3 q4 =>
       obtain rfl : us = [] := List.eq_nil_of_length_eq_zero q1
       match us', q3, q4 with
       | [p], _, q4 =>
         have e2 := q4 0 _ p rfl rfl
         cases e2 with
         | @pp _ b off vs hb hc hp =>
           match vs, hp with
           | [sv], hp =>
             have hsv := hp.2 0 _ sv rfl rfl
             have hcell : W.cell? ⟨b, off, none⟩ = some sv := by have := hc 0 (by simp); simpa using this
             have hS : Strs W.heap.size W sv l := by
              cases hsv with
              | @sl _ _ a c vss hn hcc hnil ha hll hz hz' hx =>
                refine ⟨a, c, by simp, fun hne => ?_⟩
                obtain ⟨b', off', rfl, hb', hcs⟩ := ha (by simpa using hne)
                refine ⟨b', off', rfl, hro b' hb', fun j hj => ?_⟩
                have hjv : j < vss.length := by rw [hll]; simpa using hj
                have hvj := List.getElem?_eq_getElem hjv
                have hlen := hz' j _ hvj
                have hx1 := hx j 0 (sPV l[j]) vss[j] (.v (.string (str l[j]))) (vss[j]'hjv)[0] (by rw [List.getElem?_map, List.getElem?_eq_getElem hj]; rfl) hvj rfl (List.getElem?_eq_getElem _)
                have hcc := hcs j _ hvj 0 (by omega)
                rw [List.getElem?_eq_getElem (by omega)] at hcc
                have hxe := rep_prim (h := h0) (φ := φ0) (.c hx1)
                rw [Nat.mul_one, Nat.add_zero] at hcc
                rw [hcc, hxe, List.getElem?_eq_getElem hj]
                rfl
             refine (appendSeq_plain b off sv l (by unfold maxLen; omega) (by omega) W (hro b hb) hcell hS).mono ?_
             rintro e W' ⟨v, rfl, hown, hbel⟩
             have hlt := World.ownsRow.lt hown
             refine ⟨v, ro, fun _ => v, rfl, ⟨hbel.os, hbel.tape, hbel.output, hbel.size, fun k hk _ => hbel.block k hk⟩, fun b h => h, fun b h => ⟨.inl h, Nat.lt_of_lt_of_le (hro b h) hbel.size⟩, ?_, ?_, ?_, ?_⟩
             · exact .row (by rcases hown.2 with ⟨q, _⟩ | ⟨_, _, _, q, _⟩ <;> rw [q] <;> rfl) fun B hB hn => rfl
             · refine hok_one (brep_of_own ?_) fun b hb' hrb => ?_
               · refine ⟨hown.1, ?_⟩
                 rcases hown.2 with h9 | ⟨g, cap, cur, h9, _, h10⟩
                 · exact .inl h9
                 · exact .inr ⟨g, cap, cur, h9, Nat.zero_le _, h10⟩
               · have := (hlt b (by rw [← own_blk hown]; exact hb')).1
                 have := hro b hrb
                 omega
             · intro j B' hj; exact absurd hj.2 (by have := hj.1; simp; omega)
             · intro j B b hj hb'
               exact .inl (hlt b (by rw [← own_blk hown]; exact hb')).1
theorem sort_told (l : List (List UInt8)) (hl : l.length ≤ 4294967296) : ToldM Tryz.prog 257 [.row 1000000 l.length] [sB l] [some (sB (srt l))] (.tup []) := by
 refine ⟨ent_257, ⟨rfl, trivial⟩, ⟨.tup (by simp), ?_⟩, fun W ro φ vs hro hgk hal hok => ?_⟩
 · intro b hb B hB e he
   simp at hb
   subst hb
   obtain rfl := Option.some.inj hB
   exact fun x hx => (of_eq_true (sA_sc (srt l))) e he x hx
 · obtain rfl := row_arg (B := sB l) (sA_len l) hal
   have hlen : LentL ([sB l].map some) 1000000 = some (sB l) := by simp [LentL]
   have hown := own_of_brep (hok.hp 1000000 _ hlen)
   have fin : ∀ W', W.grownBy W' (φ 1000000).ownBlock → W'.ownsRow 0 9 1 (φ 1000000) (srt l).length ((srt l).map sV) →
     ∃ v ro' φ', Ending.returned (.tuple #[]) = .returned v ∧ Keeps (fun b => ∃ j B, LentL ([sB l].map some) j = some B ∧ blkOf (φ j) = some b) W W' ∧ (∀ b, ro b → ro' b) ∧
      (∀ b, ro' b → (ro b ∨ W.heap.size ≤ b ∨ ∃ j B, LentL ([sB l].map some) j = some B ∧ blkOf (φ j) = some b) ∧ b < W'.heap.size) ∧ Rep W' ro' φ' (LentL [some (sB (srt l))]) (.tup []) v ∧ HOk W' ro' φ' (LentL [some (sB (srt l))]) ∧
      Goes (inL [sB l].length) φ φ' (LentL ([sB l].map some)) (LentL [some (sB (srt l))]) ∧ (∀ j B b, LentL [some (sB (srt l))] j = some B → blkOf (φ' j) = some b → W.heap.size ≤ b ∨ ∃ j B, LentL ([sB l].map some) j = some B ∧ blkOf (φ j) = some b) := by
    intro W' hg ho
    refine ⟨_, ro, φ, rfl, ⟨hg.os, hg.tape, hg.output, hg.size, fun k hk hm => hg.block k hk fun e => hm ⟨1000000, _, hlen, by rw [own_blk hown, e]⟩⟩, fun b h => h, fun b h => ⟨.inl h, Nat.lt_of_lt_of_le (hro b h) hg.size⟩, .tup (vs := []) rfl (by simp), hok_one (brep_of_own ho) fun b hb => hok.own 1000000 _ b hlen hb, ?_, ?_⟩
    · intro j B' hj hB'
      obtain rfl : j = 1000000 := by have := hj.1; have := hj.2; simp at this; omega
      simp [LentL] at hB'
      subst hB'
      exact ⟨_, hlen, .inr ⟨by show (sA l).length = (sA (srt l)).length; rw [sA_len, sA_len, srt_len], rfl, rfl⟩⟩
    · intro j B b hj hb
      obtain ⟨h1, h2⟩ := lentL_some hj
      have h3 := (List.getElem?_eq_some_iff.1 h2).1
      simp at h3
      obtain rfl : j = 1000000 := by omega
      exact .inr ⟨1000000, _, hlen, hb⟩
   rcases hown.2 with ⟨h1, h2⟩ | ⟨g, cap, cur, h1, _, h2, h3, h4, h5, h6⟩
   · obtain rfl : l = [] := List.eq_nil_of_length_eq_zero h2
     rw [h1]
     refine (Tryz.slices_Sort_string_none none 0 W).mono ?_
     rintro e W' ⟨rfl, rfl⟩
     exact fin W' ⟨rfl, rfl, rfl, Nat.le_refl _, fun _ _ _ => rfl⟩ (by rw [show srt [] = [] from by simp [srt]]; exact hown)
   · have hH : Holds encStr W g 0 l.toArray := holds_of_block h2 (by rw [← Nat.mul_one l.length]; exact h6)
     rw [h1]
     refine (Tryz.slices_Sort_string g 0 cap l W hH (Array.getElem?_eq_some_iff.1 h2).1 (by omega)).mono ?_
     rintro e W' ⟨rfl, n, os, rfl⟩
     refine fin _ ?_ ?_
     · rw [h1]; exact grownBy_sorted _
     · rw [h1]
       have := ownsRow_sorted (n := n) (os := os) (ts := srt l) (srt_len l) (Nat.zero_le g) h2 h3 h4 h5
       rw [srt_len]
       exact this
theorem lentL_gone (j : Nat) : LentL [none] j = none := by
 unfold LentL
 split
 · cases h : j - 1000000 with
   | zero => rfl
   | succ k => rfl
 · rfl
theorem compact_len (l : List (List UInt8)) : (Lib.compact l).length ≤ l.length := by
 unfold Lib.compact Lib.compactUpTo
 rw [List.length_map]
 exact Nat.le_trans (List.length_filter_le _ _) (by simp)
theorem compact_told (l : List (List UInt8)) (hl : l.length ≤ 4294967296) : ToldM Tryz.prog 229 [.row 1000000 l.length] [sB l] [none] (.c (.sl 1 ((Lib.compact l).map sPV))) := by
 refine ⟨ent_229, trivial, ⟨.c, fun b hb B hB => by simp at hb; subst hb; simp at hB⟩, fun W ro φ vs hro hgk hal hok => ?_⟩
 obtain rfl := row_arg (B := sB l) (sA_len l) hal
 have hlen : LentL ([sB l].map some) 1000000 = some (sB l) := by simp [LentL]
 have hown := own_of_brep (hok.hp 1000000 _ hlen)
 have hbl : ∀ b, blkOf (φ 1000000) = some b → b < W.heap.size := fun b hb => (World.ownsRow.lt hown b (by rw [← own_blk hown]; exact hb)).2
 have fin : ∀ (W' : World) (u : Value), W.grownBy W' (φ 1000000).ownBlock → PRep W' (fun b => ro b ∨ blkOf (φ 1000000) = some b) (.sl 1 ((Lib.compact l).map sPV)) u →
   ∃ v ro' φ', Ending.returned u = .returned v ∧ Keeps (fun b => ∃ j B, LentL ([sB l].map some) j = some B ∧ blkOf (φ j) = some b) W W' ∧ (∀ b, ro b → ro' b) ∧
    (∀ b, ro' b → (ro b ∨ W.heap.size ≤ b ∨ ∃ j B, LentL ([sB l].map some) j = some B ∧ blkOf (φ j) = some b) ∧ b < W'.heap.size) ∧ Rep W' ro' φ' (LentL [none]) (.c (.sl 1 ((Lib.compact l).map sPV))) v ∧ HOk W' ro' φ' (LentL [none]) ∧
    Goes (inL [sB l].length) φ φ' (LentL ([sB l].map some)) (LentL [none]) ∧ (∀ j B b, LentL [none] j = some B → blkOf (φ' j) = some b → W.heap.size ≤ b ∨ ∃ j B, LentL ([sB l].map some) j = some B ∧ blkOf (φ j) = some b) := by
  intro W' u hg hu
  refine ⟨u, _, φ, rfl, ⟨hg.os, hg.tape, hg.output, hg.size, fun k hk hm => hg.block k hk fun e => hm ⟨1000000, _, hlen, by rw [own_blk hown, e]⟩⟩, fun b h => .inl h, fun b h => ?_, .c hu, ⟨fun j B hj => ?_, fun j k B B' b hj => ?_, fun j B b hj => ?_⟩, fun j B hj hB => ?_, fun j B b hj => ?_⟩
  · rcases h with h | h
    · exact ⟨.inl h, Nat.lt_of_lt_of_le (hro b h) hg.size⟩
    · exact ⟨.inr (.inr ⟨1000000, _, hlen, h⟩), Nat.lt_of_lt_of_le (hbl b h) hg.size⟩
  all_goals first | (rw [lentL_gone] at hj; simp at hj) | (rw [lentL_gone] at hB; simp at hB)
 rcases hown.2 with ⟨h1, h2⟩ | ⟨g, cap, cur, h1, _, h2, h3, h4, h5, h6⟩
 · obtain rfl : l = [] := List.eq_nil_of_length_eq_zero h2
   rw [h1]
   refine (Tryz.slices_Compact_string_empty none 0 W).mono ?_
   rintro e W' ⟨rfl, rfl⟩
   exact fin W' _ ⟨rfl, rfl, rfl, Nat.le_refl _, fun _ _ _ => rfl⟩ (PRep.nil _ _ _)
 · have hH : Holds encStr W g 0 l.toArray := holds_of_block h2 (by rw [← Nat.mul_one l.length]; exact h6)
   rw [h1]
   refine (Tryz.slices_Compact_string g 0 cap l W hH (by omega) h3).mono ?_
   rintro e W' ⟨rfl, q, rfl⟩
   obtain ⟨ts, hts⟩ : ∃ ts, ts = Lib.compact l ++ List.replicate (l.length - (Lib.compact l).length) [] := ⟨_, rfl⟩
   have hcl := compact_len l
   have htl : ts.length = l.length := by rw [hts]; simp; omega
   rw [← hts]
   have hg := grownBy_sorted (w := W) (g := g) (n := q) (os := #[]) ts.toArray
   have ho := ownsRow_sorted (n := q) (os := #[]) (ts := ts) htl (Nat.zero_le g) h2 h3 h4 h5
   rw [grow_empty] at hg ho
   refine fin _ _ (by rw [h1]; exact hg) ?_
   rcases ho.2 with ⟨h7, _⟩ | ⟨g', cap', cur', h7, _, h8, h9, h10, h11, h12⟩
   · simp at h7
   · obtain ⟨rfl, rfl⟩ : g = g' ∧ cap = cap' := by simpa using h7
     have hm : ((Lib.compact l).map sPV).length = (Lib.compact l).length := by simp
     rw [← hm]
     refine .sl (vss := (Lib.compact l).map fun s => [sV s]) (by rw [hm]; omega) (by unfold maxLen at h4; omega) (fun h => by simp at h) (fun hne => ⟨g, 0, rfl, .inr (by rw [h1]; rfl), fun i vs hi => ?_⟩) (by simp) (fun i e he => ?_) (fun i vs hi => ?_) (fun i j e vs p v he hvs hp hv => ?_)
     · rw [List.getElem?_map] at hi
       obtain ⟨s, h13, rfl⟩ := Option.map_eq_some_iff.1 hi
       intro j hj
       obtain rfl : j = 0 := by simpa using hj
       have h14 : (cur'.toList.take (l.length * 1))[i]? = some (sV s) := by
        rw [h12, List.getElem?_map, hts, List.getElem?_append_left (List.getElem?_eq_some_iff.1 h13).1, h13]; rfl
       have hi2 : i < l.length := by have := (List.getElem?_eq_some_iff.1 h13).1; omega
       rw [List.getElem?_take_of_lt (by omega)] at h14
       have := cells_of_take h8 (l.length * 1) i (by rw [List.length_take]; simp; omega)
       rw [Nat.zero_add, List.getElem?_take_of_lt (by omega), h14] at this
       simpa using this
     · obtain ⟨s, _, rfl⟩ := List.mem_map.1 (List.mem_of_getElem? he); rfl
     · obtain ⟨s, _, rfl⟩ := List.mem_map.1 (List.mem_of_getElem? hi); rfl
     · rw [List.getElem?_map] at he hvs
       obtain ⟨s, h13, rfl⟩ := Option.map_eq_some_iff.1 he
       rw [h13] at hvs
       obtain rfl := Option.some.inj hvs
       match j, hp, hv with
       | 0, hp, hv =>
         obtain rfl := Option.some.inj hp
         obtain rfl := Option.some.inj hv
         exact .v rfl
end
section
attribute [local go_sem] opx opE ev okx gcond bnd okO AV.get AV.okb cAV upd_at putd_some putd_none wrs_nil wrs_cons look_nil look_cons st argT_at bpick_and bpick_or bpick_true bpick_false binV binI binS binVOk binOk isShift binSOk unV unVOk loadV loadP cellsA zeroA Blkd.len setE grown moreA moreR moreOk eqRes pv fillA fillE putSeg AV.cellish AV.pureL AV.pureB lentL_is ex_some AV.ren AV.renL renL_c Blkd.ren rho wrM renN lentOk rhoE keepM endOk tyA_2 tyA_3 tyA_4 tyA_5 tyA_6 tyA_7 tyA_8 tyA_9 tyA_10 tyA_11 tyA_12 tyA_13 tyA_14 tyA_15 tyA_16 tyA_17 tyA_18 tyA_19 tyA_21 tyA_22 tyA_23 tyA_24 tyA_29 tyA_30 tyA_31 tyA_32 tyA_33 tyA_34 tyA_35 tyA_36 tyA_37 tyA_38 tyA_39 tyA_40 tyA_41 tyA_42 tyA_43 tyA_49 tyA_85 tyA_89 tyA_99 tyA_100 tyA_101 tyA_105 tyA_106 tyA_107 tyA_108 tyA_109 tyA_111 tyA_112 tyA_113 tyA_114 tyA_123 tyA_126 tyA_127 tyA_128 tyA_129 tyA_130 tyA_153 tyA_163 tyA_164 tyA_165 tyA_179 tyA_185 tyA_191 tyA_192 tyA_193 tyA_194 tyA_195 tyA_196 tyA_209 tyA_213 tyA_214 tyA_215 tyA_241 tyA_248 tyA_274 tyA_275 tyA_276 tyA_292 tyA_294 tyA_302 tyA_307 tyA_315 tyA_319 tyA_321 tyA_324 tyA_325 tyA_326 tyA_327 tyA_328 tyA_329 tyA_330 tyA_332 tyA_333 Option.map_some Option.map_none Option.getD_some Option.getD_none Option.bind_some Option.bind_none List.getElem?_cons_zero List.getElem?_cons_succ List.getElem?_nil List.getElem?_toArray List.length_cons List.length_nil List.length_map List.forall_mem_map List.map_cons List.map_nil List.drop_zero List.drop_succ_cons List.drop_nil List.take_zero List.take_succ_cons List.take_nil List.mem_cons List.not_mem_nil or_false forall_eq_or_imp forall_eq List.set_cons_zero List.set_cons_succ List.cons_append List.nil_append List.append_nil List.foldl_cons List.foldl_nil List.replicate_succ List.replicate_zero List.all_cons List.all_nil if_true if_false Bool.false_eq_true ne_eq not_false_eq_true not_true_eq_false true_and and_true and_self true_implies imp_self implies_true forall_const beq_self_eq_true Bool.and_true Bool.true_and Bool.and_false Bool.false_and Bool.or_true Bool.true_or Bool.or_false Bool.false_or Bool.not_true Bool.not_false Bool.not_eq_eq_eq_not intKindOf Value.oneCell' Int.toNat_natCast beq_true beq_false Bool.not_eq_true false_implies false_or true_or or_true Nat.zero_add Nat.add_zero decide_true decide_false Int.cast_ofNat_Int Int.toNat_zero Int.toNat_one eq_self

mutual
def JT.sm (N : Nat) : JT → Prop
 | .mk k n s ks xs => s.length ≤ N ∧ ks.length ≤ N ∧ (∀ y ∈ ks, y.length ≤ N) ∧ xs.length ≤ N ∧ JT.smL N xs
def JT.smL (N : Nat) : List JT → Prop
 | [] => True
 | x :: xs => x.sm N ∧ JT.smL N xs
end
theorem smL_mem {N : Nat} : ∀ {xs : List JT}, JT.smL N xs → ∀ x ∈ xs, x.sm N
 | x :: xs, h, y, hy => by
   rcases List.mem_cons.1 hy with rfl | hy
   · exact h.1
   · exact smL_mem h.2 y hy
def jbare : JT → Bool
 | .mk k n s ks xs =>
   if k = 1 then (n == 0) && s.isEmpty && xs.isEmpty else if k = 2 then (n == 0 || n == 1) && s.isEmpty && xs.isEmpty else if k = 3 then s.isEmpty && xs.isEmpty
   else if k = 4 then (n == 0) && xs.isEmpty && isRight s else if k = 5 ∨ k = 6 then (n == 0) && s.isEmpty else false
theorem str_empty (s : List UInt8) : (!((str s).toList == (⟨#[]⟩ : ByteArray).toList)) = !s.isEmpty := by
 rw [str_toList, show (⟨#[]⟩ : ByteArray) = str [] from rfl, str_toList]
 cases s <;> rfl
theorem nn_eq (n m : Int) : (!(n != m)) = (n == m) := by cases h : n == m <;> simp_all [bne]
theorem jbare_told (t : JT) (ht : t.sm 140737488355328) : Told Tryz.prog 173 [t.av] (.c (.v (.bool (jbare t)))) := by
 cases t with
 | mk k n s ks xs =>
 have hs : s.length ≤ 140737488355328 := ht.1
 have hR := uright_told s (by omega)
 refine VC.told ent_173 Tryz.func173 rfl Tryz.ntmps173 (by simp) rfl rfl fun hb => ?_
 clear hb
 have g1 : decide ((xs.length : Int) > 0) = !xs.isEmpty := by cases xs <;> simp <;> omega
 refine walkGF (And.intro @JT.av_eq (And.intro @cells_mk (And.intro @str_empty g1))) ?_
 refine VC.cond (by rfl) (by trivial) (fun h1 => ?_) (fun h1 => ?_)
 · refine walkG ?_
   refine ⟨by first | exact .inr rfl | exact .inl rfl, ?_⟩; rw [Tryz.results173]; simp only [resOk, resV, go_sem, simprocAttr]
   refine frz_c ?_
   simp only [beq_iff_eq] at h1
   simp only [jbare, h1, if_true, nn_eq, bpick_and, Bool.not_not]
 refine walkGF (And.intro @JT.av_eq @cells_mk) ?_
 refine VC.cond (by rfl) (by trivial) (fun h2 => ?_) (fun h2 => ?_)
 · refine walkGF (And.intro @cells_mk (And.intro @str_empty g1)) ?_
   refine ⟨by first | exact .inr rfl | exact .inl rfl, ?_⟩; rw [Tryz.results173]; simp only [resOk, resV, go_sem, simprocAttr]
   refine frz_c ?_
   obtain rfl : k = 2 := by simpa using h2
   simp [jbare]
 refine walkGF (And.intro @JT.av_eq @cells_mk) ?_
 refine VC.cond (by rfl) (by trivial) (fun h3 => ?_) (fun h3 => ?_)
 · refine walkGF (And.intro @cells_mk (And.intro @str_empty g1)) ?_
   refine ⟨by first | exact .inr rfl | exact .inl rfl, ?_⟩; rw [Tryz.results173]; simp only [resOk, resV, go_sem, simprocAttr]
   refine frz_c ?_
   obtain rfl : k = 3 := by simpa using h3
   simp [jbare]
 refine walkGF (And.intro @JT.av_eq @cells_mk) ?_
 refine VC.cond (by rfl) (by trivial) (fun h4 => ?_) (fun h4 => ?_)
 · obtain rfl : k = 4 := by simpa using h4
   refine walkGF (And.intro @cells_mk (And.intro @str_empty (And.intro g1 (And.intro @str_size hs)))) ?_
   refine walkDF (@str_dl) (hR) ?_
   refine walkG ?_
   refine ⟨by first | exact .inr rfl | exact .inl rfl, ?_⟩; rw [Tryz.results173]; simp only [resOk, resV, go_sem, simprocAttr]
   refine frz_c ?_
   simp only [jbare, nn_eq, bpick_and, Bool.not_not]
   simp
 refine walkGF (And.intro @JT.av_eq @cells_mk) ?_
 refine VC.cond (by rfl) (by trivial) (fun h5 => ?_) (fun h5 => ?_)
 · obtain rfl : k = 5 := by simpa using h5
   refine walkGF (@cells_mk) ?_
   refine VC.condT (by rfl) (by trivial) ?_
   refine walkGF (And.intro @cells_mk (And.intro @str_empty g1)) ?_
   refine ⟨by first | exact .inr rfl | exact .inl rfl, ?_⟩; rw [Tryz.results173]; simp only [resOk, resV, go_sem, simprocAttr]
   refine frz_c ?_
   simp only [jbare, nn_eq, bpick_and, Bool.not_not]
   simp
 refine walkGF (And.intro @JT.av_eq @cells_mk) ?_
 refine VC.cond (by rfl) (by trivial) (fun h6 => ?_) (fun h6 => ?_)
 · obtain rfl : k = 6 := by simpa using h6
   refine walkGF (And.intro @cells_mk (And.intro @str_empty g1)) ?_
   refine ⟨by first | exact .inr rfl | exact .inl rfl, ?_⟩; rw [Tryz.results173]; simp only [resOk, resV, go_sem, simprocAttr]
   refine frz_c ?_
   simp only [jbare, nn_eq, bpick_and, Bool.not_not]
   simp
 · refine walkGF (And.intro @cells_mk (And.intro @str_empty g1)) ?_
   refine ⟨by first | exact .inr rfl | exact .inl rfl, ?_⟩; rw [Tryz.results173]; simp only [resOk, resV, go_sem, simprocAttr]
   refine frz_c ?_
   simp only [beq_eq_false_iff_ne] at h1 h2 h3 h4 h5 h6
   simp [jbare, h1, h2, h3, h4, h5, h6]
section
open Go.RowKit Go.Sort
theorem valuesS_told (l : List (List UInt8)) : Told Tryz.prog 227 [.c (.sl 1 (l.map sPV))] (.fn (.func 258) [] [.pp [.sl 1 (l.map sPV)]]) := by
 refine VC.toldP ent_227 Tryz.func227 rfl Tryz.ntmps227 fun hb => ?_
 clear hb
 refine walkG ?_
 refine ⟨by first | exact .inr rfl | exact .inl rfl, ?_⟩; rw [Tryz.results227]; simp only [resOk, resV, go_sem, simprocAttr]
 exact .fnL .nil (.cons (.refP (es := [.sl 1 (l.map sPV)]) rfl rfl rfl rfl rfl) .nil)
theorem collect_told (l : List (List UInt8)) (hl : l.length ≤ 4294967296) : ToldM Tryz.prog 256 [.fn (.func 258) [] [.pp [.sl 1 (l.map sPV)]]] [] [some (sB l)] (.row 1000000 l.length) := by
 have h := appendSeq_told l hl
 unfold sB at h ⊢
 refine VC.toldXF (And.intro @sA_len @sA_sc) ent_256 [16] Tryz.func256 rfl Tryz.ntmps256 fun hb hbL => ?_
 clear hb hbL
 refine walkG ?_
 refine walkLF (@sA_ren) [] (h) ?_
 refine walkGF (And.intro @sA_ren @sA_len) ?_
 refine ⟨by first | exact .inr rfl | exact .inl rfl, ?_⟩; rw [Tryz.results256]; simp only [sA_ren, sA_len, resOk, resV, go_sem, simprocAttr]
 exact .keepW rfl
theorem sorted_told (l : List (List UInt8)) (hl : l.length ≤ 4294967296) : ToldM Tryz.prog 226 [.fn (.func 258) [] [.pp [.sl 1 (l.map sPV)]]] [] [some (sB (srt l))] (.row 1000000 l.length) := by
 have h := collect_told l hl
 have h2 := sort_told l hl
 have hsl := srt_len l
 unfold sB at h h2 ⊢
 refine VC.toldXF (And.intro @sA_len (And.intro @sA_sc hsl)) ent_226 [16] Tryz.func226 rfl Tryz.ntmps226 fun hb hbL => ?_
 clear hb hbL
 refine walkG ?_
 refine walkLF (@sA_ren) [] (h) ?_
 refine walkGF (And.intro @sA_ren @sA_len) ?_
 refine walkLF (@sA_ren) [16] (h2) ?_
 refine walkGF (And.intro @sA_ren @sA_len) ?_
 refine ⟨by first | exact .inr rfl | exact .inl rfl, ?_⟩; rw [Tryz.results226]; simp only [sA_ren, sA_len, resOk, resV, go_sem, simprocAttr]
 exact .keepW rfl
theorem keyed1_told (s : List UInt8) (hs : s.length ≤ 140737488355328) : Told Tryz.prog 228 [.c (.v (.string (str s)))] (.c (.v (.bool (!isRight s)))) := by
 have h := uright_told s (by omega)
 refine VC.toldP ent_228 Tryz.func228 rfl Tryz.ntmps228 fun hb => ?_
 clear hb
 refine walkGF (And.intro @str_size hs) ?_
 refine walkCF (@str_dl) (h) ?_
 refine walkG ?_
 refine ⟨by first | exact .inr rfl | exact .inl rfl, ?_⟩; rw [Tryz.results228]; simp only [resOk, resV, go_sem, simprocAttr]
 exact .c _
def jkeyed : JT → Bool
 | .mk k n s ks xs => if k ≠ 6 then ks.isEmpty else decide (ks.length = xs.length) && (decide ((Lib.compact (srt ks)).length = ks.length) && ks.all isRight)
theorem jkeyed_told (t : JT) (ht : t.sm 4294967296) : Told Tryz.prog 174 [t.av] (.c (.v (.bool (jkeyed t)))) := by
 cases t with
 | mk k n s ks xs =>
 obtain ⟨_, hk, hks, _, _⟩ := ht
 have hV := valuesS_told ks
 have hS := sorted_told ks hk
 have hC := compact_told (srt ks) (by rw [srt_len]; exact hk)
 have hF := cnfS_told (g := 228) (fs := []) (cs := []) rfl rfl ks (fun s => !isRight s) fun s hs => keyed1_told s (by have := hks s hs; omega)
 unfold sB at hS hC
 rw [srt_len] at hC
 refine VC.told ent_174 Tryz.func174 rfl Tryz.ntmps174 (by simp) rfl rfl fun hb => ?_
 clear hb
 refine walkGF (And.intro @JT.av_eq @cells_mk) ?_
 refine VC.cond (by rfl) (by trivial) (fun h6 => ?_) (fun h6 => ?_)
 · refine walkGF (@cells_mk) ?_
   refine ⟨by first | exact .inr rfl | exact .inl rfl, ?_⟩; rw [Tryz.results174]; simp only [resOk, resV, go_sem, simprocAttr]
   refine frz_c ?_
   simp only [bne_iff_ne] at h6
   simp only [jkeyed]
   rw [if_pos h6]
   cases ks <;> simp <;> omega
 · refine walkGF (@cells_mk) ?_
   refine walkC (hV) ?_
   refine walkG ?_
   refine walkLF (@sA_ren) [] (hS) ?_
   simp only [bne_eq_false_iff_eq] at h6
   subst h6
   by_cases hkx : ks.length = xs.length
   · have hg : ((ks.length : Int) == (xs.length : Int)) = true := by simp [hkx]
     refine walkGF (And.intro @sA_ren (And.intro @sA_len (And.intro @cells_mk hg))) ?_
     refine walkLF (And.intro @sA_ren (And.intro @sA_len @srt_len)) [64] (hC) ?_
     refine walkGF (And.intro @sA_ren (And.intro @sA_len (And.intro @cells_mk hg))) ?_
     refine walkDF (@cells_mk) (hF) ?_
     refine walkG ?_
     refine ⟨by first | exact .inr rfl | exact .inl rfl, ?_⟩; rw [Tryz.results174]; simp only [resOk, resV, go_sem, simprocAttr]
     refine frz_c ?_
     have e1 : (!ks.any fun s => !isRight s) = ks.all isRight := by rw [List.not_any_eq_all_not]; simp
     have e2 : (((Lib.compact (srt ks)).length : Int) == (ks.length : Int)) = decide ((Lib.compact (srt ks)).length = ks.length) := by
      rw [Bool.eq_iff_iff]
      simp
      omega
     rw [e1, e2]
     simp [jkeyed, hkx]
   · have hg : ((ks.length : Int) == (xs.length : Int)) = false := by simp; omega
     refine walkGF (And.intro @sA_ren (And.intro @sA_len (And.intro @cells_mk hg))) ?_
     refine ⟨by first | exact .inr rfl | exact .inl rfl, ?_⟩; rw [Tryz.results174]; simp only [resOk, resV, go_sem, simprocAttr]
     refine frz_c ?_
     simp [jkeyed, hkx]
end

theorem ixfJ_told {g : FuncId} {fs cs : List AV} (hp : AV.pureL fs = true) (hp' : AV.pureL cs = true) (l : List (JT)) (p : JT → Bool) (hk : ∀ x ∈ l, Told Tryz.prog g (fs ++ ([x.av] ++ cs)) (.c (.v (.bool (p x))))) :
  Told Tryz.prog 230 [.c (.sl 5 (l.map JT.cells)), .fn (.func g) fs cs] (.c (.v (.int .i64 (idxP p l)))) := by
 refine VC.told ent_230 Tryz.func230 rfl Tryz.ntmps230 (by simp) (by simp [AV.pureB, AV.pureL, hp, hp']) rfl fun hb => ?_
 simp only [List.mem_cons, List.not_mem_nil, or_false, forall_eq_or_imp, forall_eq, abd_c, pbd_sl, List.length_map] at hb
 have h1 := hb.1.1
 clear hb
 refine walkG ?_
 refine VC.loop (ι := {i : Nat // i ≤ l.length ∧ ∀ j x, j < i → l[j]? = some x → p x = false}) (fun i => [(0, .c (.sl 5 (l.map JT.cells))), (1, .fn (.func g) fs cs), (7, .c (.v (.int .i64 l.length))), (8, .c (.v (.int .i64 i.1)))]) (fun _ => []) 0 (fun i => l.length - i.1) ⟨0, Nat.zero_le _, by intro j x hj; omega⟩ ?_ ?_
 · simp only [sc_pureL hp, sc_pureL hp', Weak, eq_self, used_is, sc_any, sc_c, sc_pp, sc_ref, sc_row, sc_agg, sc_fn, ScL, some_imp, List.forall_mem_map, go_sem, Int.reduceBEq, Int.reduceLE, Int.reduceLT, Int.reduceNeg, Nat.reduceAdd, Nat.reduceEqDiff, Nat.reduceLT, Nat.reduceLeDiff, Nat.reduceMul, Nat.reduceSub, reduceCtorEq, ↓reduceIte]
   all_goals rfl
 rintro ⟨i, hi, ht⟩
 refine walkG ?_
 refine VC.cond (by rfl) (by trivial) (fun hc => ?_) (fun hc => ?_)
 · simp only [decide_eq_true_eq] at hc
   obtain ⟨x, hx⟩ : ∃ x, l[i]? = some x := ⟨l[i]'(by omega), List.getElem?_eq_getElem _⟩
   have hw : IntKind.i64.wrap ((i : Int) + 1) = (i : Int) + 1 := wrap64_id (by omega) (by omega)
   have hkx := hk x (List.mem_of_getElem? hx)
   (repeat (first | refine pass ?_ | refine VC.region (by rfl) (by rfl) ?_ | (refine AO.step fun K hK => ?_; simp only [List.getElem?_map, hx, JT.av, len_cells, take_cells, take_cellsC, go_sem, Int.reduceBEq, Int.reduceLE, Int.reduceLT, Int.reduceNeg, Nat.reduceAdd, Nat.reduceEqDiff, Nat.reduceLT, Nat.reduceLeDiff, Nat.reduceMul, Nat.reduceSub, reduceCtorEq, ↓reduceIte]; (first | refine gsel_skip ?_ | refine gsel_go ?_ | skip); (first | refine hK _ _ _ ?_ | refine ⟨by first | omega | exact ⟨_, rfl, rfl⟩ | exact fun _ => ⟨_, rfl, rfl⟩ | (intro h; simp only [List.getElem?_map, hx, JT.av, len_cells, take_cells, take_cellsC, h, true_and]; omega) | (clear hK; intro h; simp_all <;> omega), hK _ _ _ ?_⟩); clear hK K) | refine VC.draw mixP (by rfl) (by rfl) ?_ | refine ⟨okd_of (by kernel_rfl), ?_⟩ | refine BQ.other (by decide) ?_ | refine VC.seq ?_ | refine AO.nil ?_ | refine VC.block ?_))
   ((refine AO.step fun K hK => ?_; simp only [go_sem, Int.reduceBEq, Int.reduceLE, Int.reduceLT, Int.reduceNeg, Nat.reduceAdd, Nat.reduceEqDiff, Nat.reduceLT, Nat.reduceLeDiff, Nat.reduceMul, Nat.reduceSub, reduceCtorEq, ↓reduceIte, JT.av, len_cells, take_cells, take_cellsC, hp, hp', pureL_app, pureL_c, List.append_assoc]; (first | refine gsel_go ?_ | skip)); refine .inl ⟨_, hkx, hK _ _ _ ?_⟩; clear hK K)
   refine walkG ?_
   refine VC.cond (by rfl) (by trivial) (fun hpx => ?_) (fun hpx => ?_)
   · have hr := idxP_at hx hpx ht
     refine walkG ?_
     refine ⟨by first | exact .inr rfl | exact .inl rfl, ?_⟩; rw [Tryz.results230]; simp only [resOk, resV, go_sem, simprocAttr]
     rw [hr]
     exact .c _
   · refine walkGF (hw) ?_
     refine .next ⟨i + 1, by omega, fun j y hj hy => ?_⟩ ?_ (by simp only []; omega)
     · rcases Nat.lt_or_ge j i with h | h
       · exact ht j y h hy
       · obtain rfl : j = i := by omega
         rw [hx] at hy
         obtain rfl := Option.some.inj hy
         exact hpx
     simp only [sc_pureL hp, sc_pureL hp', Weak, eq_self, used_is, sc_any, sc_c, sc_pp, sc_ref, sc_row, sc_agg, sc_fn, ScL, some_imp, List.forall_mem_map, go_sem, Int.reduceBEq, Int.reduceLE, Int.reduceLT, Int.reduceNeg, Nat.reduceAdd, Nat.reduceEqDiff, Nat.reduceLT, Nat.reduceLeDiff, Nat.reduceMul, Nat.reduceSub, reduceCtorEq, ↓reduceIte]
     exact cI (by omega)
 · simp only [decide_eq_false_iff_not] at hc
   obtain rfl : i = l.length := by omega
   have hr := idxP_none ht
   refine walkG ?_
   refine ⟨by first | exact .inr rfl | exact .inl rfl, ?_⟩; rw [Tryz.results230]; simp only [resOk, resV, go_sem, simprocAttr]
   rw [hr]
   exact .c _
theorem cnfJ_told {g : FuncId} {fs cs : List AV} (hp : AV.pureL fs = true) (hp' : AV.pureL cs = true) (l : List (JT)) (p : JT → Bool) (hk : ∀ x ∈ l, Told Tryz.prog g (fs ++ ([x.av] ++ cs)) (.c (.v (.bool (p x))))) :
  Told Tryz.prog 175 [.c (.sl 5 (l.map JT.cells)), .fn (.func g) fs cs] (.c (.v (.bool (l.any p)))) := by
 have hi := ixfJ_told hp hp' l p hk
 refine VC.told ent_175 Tryz.func175 rfl Tryz.ntmps175 (by simp) (by simp [AV.pureB, AV.pureL, hp, hp']) rfl fun hb => ?_
 clear hb
 refine walkG ?_
 refine walkCF (And.intro hp hp') (hi) ?_
 refine walkG ?_
 refine ⟨by first | exact .inr rfl | exact .inl rfl, ?_⟩; rw [Tryz.results175]; simp only [resOk, resV, go_sem, simprocAttr]
 exact frz_c (by rw [idxP_any])

def JT.kids : JT → List JT
 | .mk _ _ _ _ xs => xs
mutual
theorem sm_le {N M : Nat} (h : N ≤ M) : ∀ t : JT, t.sm N → t.sm M
 | .mk k n s ks xs => fun ⟨h1, h2, h3, h4, h5⟩ => ⟨Nat.le_trans h1 h, Nat.le_trans h2 h, fun y hy => Nat.le_trans (h3 y hy) h, Nat.le_trans h4 h, smL_le h xs h5⟩
theorem smL_le {N M : Nat} (h : N ≤ M) : ∀ xs : List JT, JT.smL N xs → JT.smL M xs
 | [] => fun _ => trivial
 | x :: xs => fun hx => ⟨sm_le h x hx.1, smL_le h xs hx.2⟩
end
mutual
def jright (d : Nat) : JT → Bool
 | .mk k n s ks xs => jbare (.mk k n s ks xs) && jkeyed (.mk k n s ks xs) && !(decide (32 ≤ d) && (decide (k = 5) || decide (k = 6))) && jrights (d + 1) xs
def jrights (d : Nat) : List JT → Bool
 | [] => true
 | x :: xs => jright d x && jrights d xs
end
theorem jrights_any (d : Nat) : ∀ xs : List JT, (!xs.any fun x => !jright d x) = jrights d xs
 | [] => rfl
 | x :: xs => by rw [jrights, ← jrights_any d xs]; simp
theorem right1_told {x : JT} {z : Int} {b : Bool} (h0 : 0 ≤ z) (h1 : z ≤ 32) (h : Told Tryz.prog 99 [x.av, .c (.v (.int .i64 (z + 1)))] (.c (.v (.bool b)))) : Told Tryz.prog 176 [x.av, .pp [.v (.int .i64 z)]] (.c (.v (.bool (!b)))) := by
 have hw : IntKind.i64.wrap (z + 1) = z + 1 := wrap64_id (by omega) (by omega)
 refine VC.told ent_176 Tryz.func176 rfl Tryz.ntmps176 (by simp) (by simp [AV.pureB, AV.pureL, JT.av, pureL_c]) rfl fun hb => ?_
 clear hb
 refine walkGF (And.intro @JT.av_eq (And.intro @len_cells (And.intro @take_cells (And.intro @take_cellsC hw)))) ?_
 refine walkCF (And.intro @JT.av_eq (And.intro @len_cells (And.intro @take_cells (And.intro @take_cellsC (And.intro hw @pureL_c))))) (h) ?_
 refine walkG ?_
 refine ⟨by first | exact .inr rfl | exact .inl rfl, ?_⟩; rw [Tryz.results176]; simp only [resOk, resV, go_sem, simprocAttr]
 exact .c _
theorem bare_kids {k n : Int} {s : List UInt8} {ks : List (List UInt8)} {xs : List JT} (h : jbare (.mk k n s ks xs) = true) (h5 : k ≠ 5) (h6 : k ≠ 6) : xs = [] := by
 rw [jbare] at h
 split at h
 · simp at h; exact h.2
 · split at h
   · simp at h; exact h.2
   · split at h
     · simp at h; exact h.2
     · split at h
       · simp at h; exact h.1.2
       · rw [if_neg (by simp [h5, h6])] at h
         exact absurd h (by simp)
theorem right_told : ∀ (m : Nat) (t : JT), SizeOf.sizeOf t ≤ m → t.sm 4294967296 → ∀ (d : Nat) (z : Int), d ≤ 32 → z = (d : Int) → Told Tryz.prog 99 [t.av, .c (.v (.int .i64 z))] (.c (.v (.bool (jright d t)))) := by
 intro m
 induction m with
 | zero => intro t ht; cases t; simp at ht
 | succ m ih =>
 intro t ht hsm d z hd hz
 have hB := jbare_told t (sm_le (by omega) t hsm)
 have hKy := jkeyed_told t hsm
 have hx : ∀ x ∈ t.kids, Told Tryz.prog 99 [x.av, .c (.v (.int .i64 (z + 1)))] (.c (.v (.bool (jright (d + 1) x)))) ∨ 32 ≤ d := by
  intro x hx
  by_cases h32 : 32 ≤ d
  · exact .inr h32
  · cases t with
    | mk k n s ks xs => exact .inl (ih x (by have := List.sizeOf_lt_of_mem (show x ∈ xs from hx); simp at ht; omega) (smL_mem hsm.2.2.2.2 x hx) (d + 1) (z + 1) (by omega) (by omega))
 clear ih ht hsm
 obtain ⟨V, hV⟩ : ∃ V, V = jright d t := ⟨_, rfl⟩
 rw [← hV]
 cases t with
 | mk k n s ks xs =>
 rw [jright] at hV
 replace hx : ∀ x ∈ xs, _ := hx
 obtain ⟨b1, hb1⟩ : ∃ b1, b1 = jbare (.mk k n s ks xs) := ⟨_, rfl⟩
 obtain ⟨b2, hb2⟩ : ∃ b2, b2 = jkeyed (.mk k n s ks xs) := ⟨_, rfl⟩
 rw [← hb1] at hB hV
 rw [← hb2] at hKy hV
 simp only [JT.av, cells_mk, List.map_cons, List.map_nil] at hB hKy
 refine VC.told ent_99 Tryz.func99 rfl Tryz.ntmps99 (by simp) rfl rfl fun hb => ?_
 clear hb
 refine walkGF (And.intro @JT.av_eq @cells_mk) ?_
 refine walkCF (And.intro @JT.av_eq @cells_mk) (hB) ?_
 refine walkGF (And.intro @JT.av_eq @cells_mk) ?_
 refine walkDF (And.intro @JT.av_eq @cells_mk) (hKy) ?_
 refine walkGF (And.intro @JT.av_eq @cells_mk) ?_
 refine VC.cond (by rfl) (by trivial) (fun hc => ?_) (fun hc => ?_)
 · have hVf : V = false := by
    rw [hV]
    cases b1 <;> cases b2 <;> simp_all
    omega
   rw [hVf]
   refine walkG ?_
   refine ⟨by first | exact .inr rfl | exact .inl rfl, ?_⟩; rw [Tryz.results99]; simp only [resOk, resV, go_sem, simprocAttr]
   exact .c _
 · have hb12 : b1 = true ∧ b2 = true ∧ (32 ≤ d → k ≠ 5 ∧ k ≠ 6) := by
    cases b1 <;> cases b2 <;> simp_all
    intro h32
    exact hc (by omega)
   obtain ⟨rfl, rfl, hk56⟩ := hb12
   have hx2 : ∀ x ∈ xs, Told Tryz.prog 99 [x.av, .c (.v (.int .i64 (z + 1)))] (.c (.v (.bool (jright (d + 1) x)))) := by
    intro x hxm
    rcases hx x hxm with h | h
    · exact h
    · obtain ⟨h5, h6⟩ := hk56 h
      rw [bare_kids hb1.symm h5 h6] at hxm
      simp at hxm
   have hVt : V = jrights (d + 1) xs := by
    rw [hV]
    by_cases h32 : 32 ≤ d
    · obtain ⟨h5, h6⟩ := hk56 h32
      simp [h5, h6]
    · simp [h32]
   have hF := cnfJ_told (g := 176) (fs := []) (cs := [.pp [.v (.int .i64 z)]]) rfl rfl xs (fun x => !jright (d + 1) x) fun x hxm => right1_told (by omega) (by omega) (hx2 x hxm)
   refine VC.skip ?_; refine SQ.normal ?_
   refine VC.frz [8] [(2, .ref 0 1 0 0), (3, .pp [.v (.int .i64 z)])] [(0, ⟨false, 36, 5, [(JT.mk k n s ks xs).cells.map .c]⟩)] 400 ?_ ?_
   · simp only [cells_mk, WeakF, used_is, sc_any, sc_c, sc_pp, sc_ref, sc_row, sc_agg, sc_fn, ScL, some_imp, List.forall_mem_map, go_sem, Int.reduceBEq, Int.reduceLE, Int.reduceLT, Int.reduceNeg, Nat.reduceAdd, Nat.reduceEqDiff, Nat.reduceLT, Nat.reduceLeDiff, Nat.reduceMul, Nat.reduceSub, reduceCtorEq, ↓reduceIte]
     exact ⟨⟨.same _, .ref (es := [.v (.int .i64 z)]) (by simp) rfl rfl rfl rfl⟩, .same _⟩
   refine walkGF (@cells_mk) ?_
   refine walkCF (@cells_mk) (hF) ?_
   refine walkG ?_
   refine ⟨by first | exact .inr rfl | exact .inl rfl, ?_⟩; rw [Tryz.results99]; simp only [resOk, resV, go_sem, simprocAttr]
   rw [hVt, ← jrights_any]
   exact .c _
def jR (t : JT) : Bool := jright 0 t
theorem jRight_told (t : JT) (ht : t.sm 4294967296) : Told Tryz.prog 65 [t.av] (.c (.v (.bool (jR t)))) := by
 have h := right_told _ t (Nat.le_refl _) ht 0 0 (by omega) rfl
 refine VC.told ent_65 Tryz.func65 rfl Tryz.ntmps65 (by simp) (by simp [AV.pureB, AV.pureL, JT.av, pureL_c]) rfl fun hb => ?_
 clear hb
 refine walkGF (And.intro @JT.av_eq (And.intro @len_cells (And.intro @take_cells @take_cellsC))) ?_
 refine walkCF (And.intro @JT.av_eq (And.intro @len_cells (And.intro @take_cells (And.intro @take_cellsC @pureL_c)))) (h) ?_
 refine walkG ?_
 refine ⟨by first | exact .inr rfl | exact .inl rfl, ?_⟩; rw [Tryz.results65]; simp only [resOk, resV, go_sem, simprocAttr]
 exact .c _

theorem nodup_of {ks : List (List UInt8)} (h : (Lib.compact (srt ks)).length = ks.length) : ks.Nodup := by
 have hperm : (srt ks).Perm ks := List.mergeSort_perm ks _
 have hlen := srt_len ks
 have hsort : (srt ks).Pairwise fun a b => a ≤ b := by
  have := List.pairwise_mergeSort (le := fun x y : List UInt8 => decide (x ≤ y)) (fun a b c h1 h2 => by simp only [decide_eq_true_eq] at h1 h2 ⊢; exact List.le_trans h1 h2) (fun a b => by simp only [Bool.or_eq_true, decide_eq_true_eq]; exact List.le_total a b) ks
  exact this.imp fun h => by simpa using h
 generalize srt ks = L at h hperm hlen hsort
 refine hperm.nodup_iff.1 ?_
 have hk : ∀ j, j < L.length → Lib.keeps L.toArray j = true := by
  rw [← hlen] at h
  unfold Lib.compact Lib.compactUpTo at h
  rw [List.length_map] at h
  have h2 : ((List.range L.length).filter (Lib.keeps L.toArray)).length = (List.range L.length).length := by rw [h, List.length_range]
  intro j hj
  exact List.length_filter_eq_length_iff.1 h2 j (List.mem_range.2 hj)
 rw [List.nodup_iff_pairwise_ne, List.pairwise_iff_getElem]
 intro i j hi hj hij heq
 have h1 := List.pairwise_iff_getElem.1 hsort
 have hk1 := hk (i + 1) (by omega)
 have hle1 := h1 i (i + 1) hi (by omega) (by omega)
 have hle2 : L[i + 1]'(by omega) ≤ L[j] := by
  rcases Nat.lt_or_ge (i + 1) j with h2 | h2
  · exact h1 (i + 1) j (by omega) hj h2
  · have : i + 1 = j := by omega
    subst this
    exact List.le_refl _
 rw [← heq] at hle2
 have he := List.le_antisymm hle1 hle2
 unfold Lib.keeps at hk1
 have g1 : L.toArray[i + 1]! = L[i + 1]'(by omega) := by simp [show i + 1 < L.length by omega]
 have g2 : L.toArray[i + 1 - 1]! = L[i] := by simp [hi]
 rw [g1, g2, he] at hk1
 simp at hk1
theorem compact_nodup {ks : List (List UInt8)} (h : ks.Nodup) : (Lib.compact (srt ks)).length = ks.length := by
 have hperm : (srt ks).Perm ks := List.mergeSort_perm ks _
 have hlen := srt_len ks
 have hnd := hperm.nodup_iff.2 h
 generalize srt ks = L at hperm hlen hnd ⊢
 have hk : ∀ j, j < L.length → Lib.keeps L.toArray j = true := by
  intro j hj
  unfold Lib.keeps
  by_cases h0 : j = 0
  · simp [h0]
  · have g1 : L.toArray[j]! = L[j] := by simp [hj]
    have g2 : L.toArray[j - 1]! = L[j - 1]'(by omega) := by simp [show j - 1 < L.length by omega]
    rw [g1, g2]
    have := List.pairwise_iff_getElem.1 (List.nodup_iff_pairwise_ne.1 hnd) (j - 1) j (by omega) hj (by omega)
    exact decide_eq_true (.inr fun e => this e.symm)
 unfold Lib.compact Lib.compactUpTo
 rw [List.length_map, List.length_filter_eq_length_iff.2 fun j hj => hk j (List.mem_range.1 hj), List.length_range, hlen]

def rfail : JT → Bool
 | .mk k n s ks xs => decide (k < 1) || decide (k > 6) || (decide (k ≠ 2) && decide (k ≠ 3) && decide (n ≠ 0)) || (decide (k = 2) && decide (n ≠ 0) && decide (n ≠ 1)) || (decide (k ≠ 4) && !s.isEmpty) || !isRight s
   || (decide (k < 5) && !xs.isEmpty) || (decide (k ≠ 6) && !ks.isEmpty) || (decide (k = 6) && decide (ks.length ≠ xs.length))
mutual
def rshape : JT → Bool
 | .mk k n s ks xs => !rfail (.mk k n s ks xs) && (ks.all isRight && decide ks.Nodup) && rshapes xs
def rshapes : List JT → Bool
 | [] => true
 | x :: xs => rshape x && rshapes xs
end
theorem right_empty : isRight [] = true := by decide +kernel
theorem deeps_le (m : Nat) : ∀ (xs : List JT) (n : Nat), tdeeps n xs ≤ m ↔ n ≤ m ∧ ∀ x ∈ xs, 1 + tdeep x ≤ m
 | [], n => by simp [tdeeps]
 | x :: xs, n => by
   rw [tdeeps, deeps_le m xs]
   simp only [List.mem_cons, forall_eq_or_imp]
   constructor
   · rintro ⟨h1, h2⟩; exact ⟨by omega, by omega, h2⟩
   · rintro ⟨h1, h2, h3⟩; exact ⟨by omega, h3⟩
theorem keyed_iff {k n : Int} {s : List UInt8} {ks : List (List UInt8)} {xs : List JT} : jkeyed (.mk k n s ks xs) = ((if k ≠ 6 then ks.isEmpty else decide (ks.length = xs.length)) && (ks.all isRight && decide ks.Nodup)) := by
 rw [jkeyed]
 by_cases h6 : k = 6
 · rw [if_neg (by simp [h6]), if_neg (by simp [h6])]
   have : decide ((Lib.compact (srt ks)).length = ks.length) = decide ks.Nodup := by
    rw [Bool.eq_iff_iff]
    simp only [decide_eq_true_eq]
    exact ⟨nodup_of, compact_nodup⟩
   rw [this, Bool.and_comm (ks.all isRight)]
 · rw [if_pos h6, if_pos h6]
   cases ks with
   | nil => simp
   | cons y ks => simp
theorem bare_iff (k n : Int) (s : List UInt8) (ks : List (List UInt8)) (xs : List JT) : (jbare (.mk k n s ks xs) && (if k ≠ 6 then ks.isEmpty else decide (ks.length = xs.length))) = !rfail (.mk k n s ks xs) := by
 rw [Bool.eq_iff_iff]
 unfold rfail
 rw [jbare]
 have hr := right_empty
 by_cases h1 : k = 1
 · subst h1; cases s <;> cases xs <;> cases ks <;> simp [hr]
 by_cases h2 : k = 2
 · subst h2; cases s <;> cases xs <;> cases ks <;> simp [hr]
   all_goals omega
 by_cases h3 : k = 3
 · subst h3; cases s <;> cases xs <;> cases ks <;> simp [hr]
 by_cases h4 : k = 4
 · subst h4; cases s <;> cases xs <;> cases ks <;> simp [hr]
 by_cases h5 : k = 5
 · subst h5; cases s <;> cases xs <;> cases ks <;> simp [hr]
 by_cases h6 : k = 6
 · subst h6; cases s <;> cases xs <;> cases ks <;> simp [hr]
 · have : k < 1 ∨ k > 6 := by omega
   simp [h1, h2, h3, h4, h5, h6, this]
   omega
mutual
theorem right_shape (d : Nat) (hd : d ≤ 32) : ∀ t : JT, jright d t = (decide (d + tdeep t ≤ 32) && rshape t)
 | .mk k n s ks xs => by
   rw [jright, rshape, keyed_iff, ← bare_iff, tdeep]
   by_cases hb : jbare (.mk k n s ks xs) = true
   · by_cases h56 : k = 5 ∨ k = 6
     · rw [if_pos h56]
       by_cases h32 : d = 32
       · subst h32
         have := (deeps_le 0 xs 1)
         have h1 : ¬ 32 + tdeeps 1 xs ≤ 32 := by
          intro h
          have := (deeps_le 0 xs 1).1 (by omega)
          omega
         rw [Bool.eq_iff_iff]
         simp [h1]
         omega
       · rw [rights_shapes (d + 1) (by omega) xs]
         have h2 : decide (d + tdeeps 1 xs ≤ 32) = (xs.all fun x => decide (d + 1 + tdeep x ≤ 32)) := by
          rw [Bool.eq_iff_iff]
          simp only [decide_eq_true_eq, List.all_eq_true]
          have := deeps_le (32 - d) xs 1
          constructor
          · intro h x hx
            have := (this.1 (by omega)).2 x hx
            omega
          · intro h
            have := this.2 ⟨by omega, fun x hx => by have := h x hx; omega⟩
            omega
         have h3 : decide (32 ≤ d) = false := by simp; omega
         rw [h2, hb, h3]
         simp only [Bool.false_and, Bool.not_false, Bool.and_true, Bool.true_and]
         generalize (xs.all fun x => decide (d + 1 + tdeep x ≤ 32)) = A
         generalize ((if k ≠ 6 then ks.isEmpty else decide (ks.length = xs.length)) && (ks.all isRight && decide ks.Nodup)) = Z
         cases A <;> cases Z <;> simp
     · rw [if_neg h56, bare_kids hb (fun h => h56 (.inl h)) (fun h => h56 (.inr h))]
       have h5 : decide (k = 5) = false := by simp; exact fun h => h56 (.inl h)
       have h6 : decide (k = 6) = false := by simp; exact fun h => h56 (.inr h)
       rw [h5, h6]
       simp [jrights, rshapes, hd, Bool.and_assoc]
   · simp [hb]
theorem rights_shapes (d : Nat) (hd : d ≤ 32) : ∀ xs : List JT, jrights d xs = ((xs.all fun x => decide (d + tdeep x ≤ 32)) && rshapes xs)
 | [] => rfl
 | x :: xs => by
   rw [jrights, rshapes, right_shape d hd x, rights_shapes d hd xs, List.all_cons]
   cases decide (d + tdeep x ≤ 32) <;> cases rshape x <;> simp
end
theorem jR_shape (t : JT) : jR t = (decide (tdeep t ≤ 32) && rshape t) := by
 unfold jR
 rw [right_shape 0 (by omega) t, Nat.zero_add]

theorem taken_next {α : Type} [DecidableEq α] {ks ls : List α} {i : Nat} {x y : α} (hx : ks[i]? = some x) (hy : ls[i]? = some y) (ht : ks.take i = ls.take i) : ks.take (i + 1) = ls.take (i + 1) ↔ x = y := by
 rw [List.take_add_one, List.take_add_one, hx, hy, ht]
 simp
theorem sequal_told (ks ls : List (List UInt8)) : Told Tryz.prog 61 [.c (.sl 1 (ks.map sPV)), .c (.sl 1 (ls.map sPV))] (.c (.v (.bool (ks == ls)))) := by
 refine VC.told ent_61 Tryz.func61 rfl Tryz.ntmps61 (by simp) rfl rfl fun hb => ?_
 simp only [abd_c, pbd_sl, List.mem_cons, List.not_mem_nil, or_false, forall_eq_or_imp, forall_eq, List.length_map] at hb
 have h1 := hb.1.1
 have h2 := hb.2.1
 clear hb
 refine walkG ?_
 refine VC.cond (by rfl) (by trivial) (fun hc => ?_) (fun hc => ?_)
 · have hne : (ks == ls) = false := by
    rw [beq_eq_false_iff_ne]
    intro e
    subst e
    simp at hc
   refine walkG ?_
   refine ⟨.inr rfl, ?_⟩
   rw [Tryz.results61, hne]
   simp only [resOk, resV, go_sem, simprocAttr]
   exact .c _
 · have hlen : ks.length = ls.length := by
    simp at hc
    omega
   refine walkG ?_
   refine VC.loop (ι := {i : Nat // i ≤ ks.length ∧ ks.take i = ls.take i}) (fun i => [(0, .c (.sl 1 (ks.map sPV))), (1, .c (.sl 1 (ls.map sPV))), (12, .c (.v (.int .i64 ks.length))), (13, .c (.v (.int .i64 i.1)))]) (fun _ => []) 0 (fun i => ks.length - i.1) ⟨0, Nat.zero_le _, rfl⟩ ?_ ?_
   · simp only [Weak, eq_self, used_is, sc_any, sc_c, sc_pp, sc_ref, sc_row, sc_agg, sc_fn, ScL, some_imp, List.forall_mem_map, go_sem, Int.reduceBEq, Int.reduceLE, Int.reduceLT, Int.reduceNeg, Nat.reduceAdd, Nat.reduceEqDiff, Nat.reduceLT, Nat.reduceLeDiff, Nat.reduceMul, Nat.reduceSub, reduceCtorEq, ↓reduceIte]
     all_goals rfl
   rintro ⟨i, hi, ht⟩
   refine walkG ?_
   refine VC.cond (by rfl) (by trivial) (fun hc => ?_) (fun hc => ?_)
   · simp only [decide_eq_true_eq] at hc
     obtain ⟨x, hx⟩ : ∃ x, ks[i]? = some x := ⟨ks[i], List.getElem?_eq_getElem (by omega)⟩
     obtain ⟨y, hy⟩ : ∃ y, ls[i]? = some y := ⟨ls[i], List.getElem?_eq_getElem (by omega)⟩
     have hw : IntKind.i64.wrap ((i : Int) + 1) = (i : Int) + 1 := wrap64_id (by omega) (by omega)
     have htn := taken_next hx hy ht
     (repeat (first | refine pass ?_ | refine VC.region (by rfl) (by rfl) ?_ | (refine AO.step fun K hK => ?_; simp only [List.getElem?_map, hx, hy, sPV, str_toList, go_sem, Int.reduceBEq, Int.reduceLE, Int.reduceLT, Int.reduceNeg, Nat.reduceAdd, Nat.reduceEqDiff, Nat.reduceLT, Nat.reduceLeDiff, Nat.reduceMul, Nat.reduceSub, reduceCtorEq, ↓reduceIte]; (first | refine gsel_skip ?_ | refine gsel_go ?_ | skip); (first | refine hK _ _ _ ?_ | refine ⟨by first | omega | exact ⟨_, rfl, rfl⟩ | exact fun _ => ⟨_, rfl, rfl⟩ | (intro h; simp only [List.getElem?_map, hx, hy, sPV, str_toList, h, true_and]; omega) | (clear hK; intro h; simp_all <;> omega), hK _ _ _ ?_⟩); clear hK K) | refine VC.draw mixP (by rfl) (by rfl) ?_ | refine ⟨okd_of (by kernel_rfl), ?_⟩ | refine BQ.other (by decide) ?_ | refine VC.seq ?_ | refine AO.nil ?_ | refine VC.block ?_))
     refine VC.cond (by rfl) (by trivial) (fun hc2 => ?_) (fun hc2 => ?_)
     · have hne : (ks == ls) = false := by
        rw [beq_eq_false_iff_ne]
        intro e
        subst e
        rw [hx] at hy
        obtain rfl := Option.some.inj hy
        simp at hc2
       refine walkG ?_
       refine ⟨.inr rfl, ?_⟩
       rw [Tryz.results61, hne]
       simp only [resOk, resV, go_sem, simprocAttr]
       exact .c _
     · have hxy : x = y := by simpa using hc2
       refine walkGF (hw) ?_
       refine .next ⟨i + 1, by omega, htn.2 hxy⟩ ?_ (by simp only []; omega)
       simp only [Weak, eq_self, used_is, sc_any, sc_c, sc_pp, sc_ref, sc_row, sc_agg, sc_fn, ScL, some_imp, List.forall_mem_map, go_sem, Int.reduceBEq, Int.reduceLE, Int.reduceLT, Int.reduceNeg, Nat.reduceAdd, Nat.reduceEqDiff, Nat.reduceLT, Nat.reduceLeDiff, Nat.reduceMul, Nat.reduceSub, reduceCtorEq, ↓reduceIte]
       exact cI (by omega)
   · simp only [decide_eq_false_iff_not] at hc
     obtain rfl : i = ks.length := by omega
     have heq : (ks == ls) = true := by
      rw [List.take_length, hlen, List.take_length] at ht
      simp [ht]
     refine walkG ?_
     refine ⟨.inr rfl, ?_⟩
     rw [Tryz.results61, heq]
     simp only [resOk, resV, go_sem, simprocAttr]
     exact .c _
noncomputable def jeq (a b : JT) : Bool := @decide (a = b) (Classical.propDecidable _)
theorem jeq_iff (a b : JT) : jeq a b = true ↔ a = b := by simp [jeq]
theorem jeq_false (a b : JT) : jeq a b = false ↔ a ≠ b := by simp [jeq]
theorem jeq_self (a : JT) : jeq a a = true := (jeq_iff a a).2 rfl
noncomputable def jeqL (a b : List JT) : Bool := @decide (a = b) (Classical.propDecidable _)
theorem jeqL_iff (a b : List JT) : jeqL a b = true ↔ a = b := by simp [jeqL]
theorem jeqL_false (a b : List JT) : jeqL a b = false ↔ a ≠ b := by simp [jeqL]
theorem jeq_mk (k n k' n' : Int) (s s' : List UInt8) (ks ks' : List (List UInt8)) (xs xs' : List JT) : jeq (.mk k n s ks xs) (.mk k' n' s' ks' xs') = ((((k == k' && n == n') && s == s') && ks == ks') && jeqL xs xs') := by
 rw [Bool.eq_iff_iff]
 simp only [jeq_iff, Bool.and_eq_true, beq_iff_eq, jeqL_iff, JT.mk.injEq]
 constructor
 · rintro ⟨rfl, rfl, rfl, rfl, rfl⟩; simp
 · rintro ⟨⟨⟨⟨rfl, rfl⟩, rfl⟩, rfl⟩, rfl⟩; simp
theorem eqfunc_told (xs ys : List JT) (hcall : ∀ x ∈ xs, ∀ y, Told Tryz.prog 93 [x.av, y.av] (.c (.v (.bool (jeq x y))))) :
  Told Tryz.prog 172 [.c (.sl 5 (xs.map JT.cells)), .c (.sl 5 (ys.map JT.cells)), .fn (.func 93) [] []] (.c (.v (.bool (jeqL xs ys)))) := by
 refine VC.told ent_172 Tryz.func172 rfl Tryz.ntmps172 (by simp) rfl rfl fun hb => ?_
 simp only [abd_c, pbd_sl, List.mem_cons, List.not_mem_nil, or_false, forall_eq_or_imp, forall_eq, List.length_map] at hb
 have h1 := hb.1.1
 have h2 := hb.2.1.1
 clear hb
 refine walkG ?_
 refine VC.cond (by rfl) (by trivial) (fun hc => ?_) (fun hc => ?_)
 · have hne : jeqL xs ys = false := by
    rw [jeqL_false]
    intro e
    subst e
    simp at hc
   refine walkG ?_
   refine ⟨.inr rfl, ?_⟩
   rw [Tryz.results172, hne]
   simp only [resOk, resV, go_sem, simprocAttr]
   exact .c _
 · have hlen : xs.length = ys.length := by
    simp at hc
    omega
   refine walkG ?_
   refine VC.loop (ι := {i : Nat // i ≤ xs.length ∧ xs.take i = ys.take i}) (fun i => [(1, .c (.sl 5 (ys.map JT.cells))), (2, .fn (.func 93) [] []), (15, .c (.sl 5 (xs.map JT.cells))), (16, .c (.v (.int .i64 xs.length))), (17, .c (.v (.int .i64 i.1)))]) (fun _ => []) 0 (fun i => xs.length - i.1) ⟨0, Nat.zero_le _, rfl⟩ ?_ ?_
   · simp only [Weak, eq_self, used_is, sc_any, sc_c, sc_pp, sc_ref, sc_row, sc_agg, sc_fn, ScL, some_imp, List.forall_mem_map, go_sem, Int.reduceBEq, Int.reduceLE, Int.reduceLT, Int.reduceNeg, Nat.reduceAdd, Nat.reduceEqDiff, Nat.reduceLT, Nat.reduceLeDiff, Nat.reduceMul, Nat.reduceSub, reduceCtorEq, ↓reduceIte]
     all_goals rfl
   rintro ⟨i, hi, ht⟩
   refine walkG ?_
   refine VC.cond (by rfl) (by trivial) (fun hc => ?_) (fun hc => ?_)
   · simp only [decide_eq_true_eq] at hc
     obtain ⟨x, hx⟩ : ∃ x, xs[i]? = some x := ⟨xs[i], List.getElem?_eq_getElem (by omega)⟩
     obtain ⟨y, hy⟩ : ∃ y, ys[i]? = some y := ⟨ys[i], List.getElem?_eq_getElem (by omega)⟩
     have hw : IntKind.i64.wrap ((i : Int) + 1) = (i : Int) + 1 := wrap64_id (by omega) (by omega)
     have hcl := hcall x (List.mem_of_getElem? hx) y
     (repeat (first | refine pass ?_ | refine VC.region (by rfl) (by rfl) ?_ | (refine AO.step fun K hK => ?_; simp only [List.getElem?_map, hx, hy, len_cells, take_cells, take_cellsC, go_sem, Int.reduceBEq, Int.reduceLE, Int.reduceLT, Int.reduceNeg, Nat.reduceAdd, Nat.reduceEqDiff, Nat.reduceLT, Nat.reduceLeDiff, Nat.reduceMul, Nat.reduceSub, reduceCtorEq, ↓reduceIte]; (first | refine gsel_skip ?_ | refine gsel_go ?_ | skip); (first | refine hK _ _ _ ?_ | refine ⟨by first | omega | exact ⟨_, rfl, rfl⟩ | exact fun _ => ⟨_, rfl, rfl⟩ | (intro h; simp only [List.getElem?_map, hx, hy, len_cells, take_cells, take_cellsC, h, true_and]; omega) | (clear hK; intro h; simp_all <;> omega), hK _ _ _ ?_⟩); clear hK K) | refine VC.draw mixP (by rfl) (by rfl) ?_ | refine ⟨okd_of (by kernel_rfl), ?_⟩ | refine BQ.other (by decide) ?_ | refine VC.seq ?_ | refine AO.nil ?_ | refine VC.block ?_))
     (refine AO.step fun K hK => ?_; simp only [go_sem, Int.reduceBEq, Int.reduceLE, Int.reduceLT, Int.reduceNeg, Nat.reduceAdd, Nat.reduceEqDiff, Nat.reduceLT, Nat.reduceLeDiff, Nat.reduceMul, Nat.reduceSub, reduceCtorEq, ↓reduceIte, pureL_c]; (first | refine gsel_go ?_ | skip))
     refine .inl ⟨_, hcl, hK _ _ _ ?_⟩
     clear hK K
     refine walkG ?_
     refine VC.cond (by rfl) (by trivial) (fun hc2 => ?_) (fun hc2 => ?_)
     · have hne : jeqL xs ys = false := by
        rw [jeqL_false]
        intro e
        subst e
        rw [hx] at hy
        obtain rfl := Option.some.inj hy
        rw [jeq_self] at hc2
        simp at hc2
       refine walkG ?_
       refine ⟨.inr rfl, ?_⟩
       rw [Tryz.results172, hne]
       simp only [resOk, resV, go_sem, simprocAttr]
       exact .c _
     · have hxy : x = y := by
        rw [← jeq_iff]
        simpa using hc2
       refine walkGF (hw) ?_
       refine .next ⟨i + 1, by omega, ?_⟩ ?_ (by simp only []; omega)
       · rw [List.take_add_one, List.take_add_one, hx, hy, ht, hxy]
       simp only [Weak, eq_self, used_is, sc_any, sc_c, sc_pp, sc_ref, sc_row, sc_agg, sc_fn, ScL, some_imp, List.forall_mem_map, go_sem, Int.reduceBEq, Int.reduceLE, Int.reduceLT, Int.reduceNeg, Nat.reduceAdd, Nat.reduceEqDiff, Nat.reduceLT, Nat.reduceLeDiff, Nat.reduceMul, Nat.reduceSub, reduceCtorEq, ↓reduceIte]
       exact cI (by omega)
   · simp only [decide_eq_false_iff_not] at hc
     obtain rfl : i = xs.length := by omega
     have heq : jeqL xs ys = true := by
      rw [List.take_length, hlen, List.take_length] at ht
      rw [jeqL_iff, ht]
     refine walkG ?_
     refine ⟨.inr rfl, ?_⟩
     rw [Tryz.results172, heq]
     simp only [resOk, resV, go_sem, simprocAttr]
     exact .c _
theorem same_told : ∀ (m : Nat) (a b : JT), SizeOf.sizeOf a ≤ m → Told Tryz.prog 93 [a.av, b.av] (.c (.v (.bool (jeq a b)))) := by
 intro m
 induction m with
 | zero => intro a b ha; cases a; simp at ha
 | succ m ih =>
 intro a b ha
 cases a with
 | mk k n s ks xs =>
 cases b with
 | mk k' n' s' ks' xs' =>
 refine VC.told ent_93 Tryz.func93 rfl Tryz.ntmps93 (by simp) rfl rfl fun hb => ?_
 clear hb
 simp only [JT.av, cells_mk, List.map_cons, List.map_nil]
 have hE := eqfunc_told xs xs' fun x hx y => ih x y (by
  have h1 := List.sizeOf_lt_of_mem hx
  simp at ha
  omega)
 refine walkGF (@str_toList) ?_
 (refine AO.step fun K hK => ?_; simp only [go_sem, Int.reduceBEq, Int.reduceLE, Int.reduceLT, Int.reduceNeg, Nat.reduceAdd, Nat.reduceEqDiff, Nat.reduceLT, Nat.reduceLeDiff, Nat.reduceMul, Nat.reduceSub, reduceCtorEq, ↓reduceIte]; (first | refine gsel_go ?_ | skip))
 refine .inl ⟨_, fun _ => sequal_told ks ks', hK _ _ _ ?_⟩
 clear hK K
 refine walkG ?_
 (refine AO.step fun K hK => ?_; simp only [go_sem, Int.reduceBEq, Int.reduceLE, Int.reduceLT, Int.reduceNeg, Nat.reduceAdd, Nat.reduceEqDiff, Nat.reduceLT, Nat.reduceLeDiff, Nat.reduceMul, Nat.reduceSub, reduceCtorEq, ↓reduceIte]; (first | refine gsel_go ?_ | skip))
 refine .inl ⟨_, fun _ => hE, hK _ _ _ ?_⟩
 clear hK K
 refine walkG ?_
 refine ⟨.inr rfl, ?_⟩
 rw [Tryz.results93]
 simp only [resOk, resV, go_sem, simprocAttr]
 rw [jeq_mk]
 exact .c _

/-! Names. -/
def isLet (c : UInt8) : Bool := (decide (97 ≤ c.toNat) && decide (c.toNat ≤ 122)) || ((decide (65 ≤ c.toNat) && decide (c.toNat ≤ 90)) || decide (c.toNat = 95))
def isDig (c : UInt8) : Bool := decide (48 ≤ c.toNat) && decide (c.toNat ≤ 57)
def simp1 : List UInt8 → Bool
 | [] => false
 | c :: cs => isLet c && cs.all fun c => isLet c || isDig c
def simpleM (s : List UInt8) : Bool := decide (s.length ≤ 100) && simp1 s
def fullF : Nat → List UInt8 → Bool
 | 0, _ => false
 | n + 1, s => simp1 (s.takeWhile (· != 46)) && (match s.dropWhile (· != 46) with | [] => true | _ :: r => fullF n r)
def fullM (s : List UInt8) : Bool := decide (s.length ≤ 100) && fullF (s.length + 1) s
theorem fullF_fuel : ∀ (n m : Nat) (s : List UInt8), s.length < n → s.length < m → fullF n s = fullF m s
 | 0, _, _, h, _ => by omega
 | _, 0, _, _, h => by omega
 | n + 1, m + 1, s, h1, h2 => by
   rw [fullF, fullF]
   congr 1
   have hd : (s.dropWhile (· != 46)).length ≤ s.length := (List.dropWhile_sublist _).length_le
   split
   · rfl
   · rename_i x r hr
     rw [hr] at hd
     simp at hd
     exact fullF_fuel n m r (by omega) (by omega)
def kwords : List (List UInt8) := [[], [110, 117, 108, 108], [98, 111, 111, 108, 101, 97, 110], [105, 110, 116], [108, 111, 110, 103], [102, 108, 111, 97, 116], [100, 111, 117, 98, 108, 101], [98, 121, 116, 101, 115], [115, 116, 114, 105, 110, 103], [114, 101, 99, 111, 114, 100], [101, 110, 117, 109], [97, 114, 114, 97, 121], [109, 97, 112], [], [102, 105, 120, 101, 100]]
def kindM (s : List UInt8) : Nat := if s = [] then 0 else match kwords.findIdx? (· == s) with | some i => i | none => 0
/-! Schemas that may be. -/
def diffM (rule : List UInt8 → Bool) (l : List (List UInt8)) : Bool := l.all rule && decide l.Nodup
def allM (rule : List UInt8 → Bool) (l : List (List UInt8)) : Bool := decide (l.length ≤ 40) && l.all rule
def jzero : JT := .mk 0 0 [] [] []
def bareM (n : NT) : Bool :=
 (namedK n.kind || (n.name.isEmpty && n.aliases.isEmpty)) && ((n.kind == 9 || n.fields.isEmpty) && ((n.kind == 10 || (n.symbols.isEmpty && (!n.has && n.dflt.isEmpty))) && ((n.kind == 14 || n.size == 0) && ((n.kind == 11 || n.kind == 12 || n.items == 0) && (n.kind == 13 || n.branches.isEmpty)))))
noncomputable def fieldM (f : FT) : Bool := allM simpleM f.aliases && (if f.has = true then jR f.dflt else jeq f.dflt jzero)
noncomputable def fieldsM (l : List FT) : Bool := l.all fieldM && (decide (l.length ≤ 40) && diffM simpleM (l.map (·.name)))
def branchM (ns : List NT) (l : List Int) (k : Int) : Bool := kindAt ns k.toNat != 13 && !l.any fun m => m == k || (!namedK (kindAt ns k.toNat) && kindAt ns m.toNat == kindAt ns k.toNat)
def branchesM (ns : List NT) : List Int → List Int → Bool
 | _, [] => true
 | l, k :: ks => branchM ns l k && branchesM ns (l ++ [k]) ks
def unionM (ns : List NT) (l : List Int) : Bool := decide (1 ≤ l.length) && (decide (l.length ≤ 10) && branchesM ns [] l)
noncomputable def nodeM (ns : List NT) (n : NT) : Bool :=
 (decide (1 ≤ n.kind) && (decide (n.kind ≤ 14) && bareM n)) && ((!namedK n.kind || (fullM n.name && (kindM n.name == 0 && allM fullM n.aliases))) && (
  if n.kind = 9 then fieldsM n.fields else if n.kind = 10 then ((n.has == n.symbols.contains n.dflt) && (n.has || n.dflt.isEmpty)) && (decide (1 ≤ n.symbols.length) && (decide (n.symbols.length ≤ 40) && diffM simpleM n.symbols))
  else if n.kind = 14 then decide (0 ≤ n.size) && decide (n.size ≤ 1000) else if n.kind = 13 then unionM ns n.branches else true))
def weighK (f : Nat → List Int → Int × List Int) : List FT → Int → List Int → Int × List Int
 | [], n, kn => (n, kn)
 | x :: xs, n, kn => weighK f xs (min (n + (f x.type.toNat kn).1) 1001) (f x.type.toNat kn).2
def knAt (kn : List Int) (k : Nat) : Int := match kn[k]? with | some n => n | none => 0
def fieldsAt (ns : List NT) (k : Nat) : List FT := match ns[k]? with | some n => (if n.kind = 9 then n.fields else []) | none => []
def weighM (ns : List NT) : Nat → Nat → List Int → Int × List Int
 | 0, _, kn => (1001, kn)
 | d + 1, p, kn => if knAt kn p < 0 then (1001, kn) else if 0 < knAt kn p then (knAt kn p, kn) else
   ((weighK (weighM ns d) (fieldsAt ns p) 1 (kn.set p (-1))).1, (weighK (weighM ns d) (fieldsAt ns p) 1 (kn.set p (-1))).2.set p (weighK (weighM ns d) (fieldsAt ns p) 1 (kn.set p (-1))).1)
noncomputable def rightL (ns : List NT) : List NT → Nat → List Int → Bool
 | [], _, _ => true
 | n :: r, p, kn => nodeM ns n && (decide ((weighM ns (ns.length + 1) p kn).1 ≤ 1000) && rightL ns r (p + 1) (weighM ns (ns.length + 1) p kn).2)
def namesM (ns : List NT) : List (List UInt8) := (ns.filter fun n => namedK n.kind).map (·.name)
noncomputable def rightM (s : ST) : Bool := orderedM s && (rightL s.nodes s.nodes 0 (List.replicate s.nodes.length 0) && diffM fullM (namesM s.nodes))
theorem right_ordered {s : ST} (h : rightM s = true) : orderedM s = true := by
 unfold rightM at h
 simp only [Bool.and_eq_true] at h
 exact h.1

theorem told_plain {P : Program} {f : FuncId} {xs : List Value} {r : Value} (hE : Enters P f) (hr : r.oneCell' = true) (h : ∀ W : World, Calls P f xs.toArray W fun e w' => e = .returned r ∧ w' = W) : Told P f (xs.map fun x => .c (.v x)) (.c (.v r)) := by
 refine ⟨hE, fun W ro vs hro hgk hl => ?_⟩
 have hvs : vs = xs := by
  apply List.ext_getElem?
  intro k
  by_cases hk : k < xs.length
  · have hkv : k < vs.length := by rw [hl.1]; simpa using hk
    have := hl.2 k _ _ (by rw [List.getElem?_map, List.getElem?_eq_getElem hk]; rfl) (List.getElem?_eq_getElem hkv)
    rw [List.getElem?_eq_getElem hkv, rep_prim this, List.getElem?_eq_getElem hk]
  · rw [List.getElem?_eq_none (by rw [hl.1]; simpa using hk), List.getElem?_eq_none (by omega)]
 subst hvs
 refine (h W).mono ?_
 rintro e W' ⟨rfl, rfl⟩
 exact ⟨r, ro, rfl, Below.refl _ _, fun b h => h, fun b h => ⟨.inl h, hro b h⟩, .c (.v hr), .c _⟩
end
end Go.Proofs.YtllnlmchjljhlaaGreatDoor
