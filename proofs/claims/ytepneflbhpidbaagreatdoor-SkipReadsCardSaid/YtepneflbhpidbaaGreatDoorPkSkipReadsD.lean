/- Texts that lead to the law SkipReads, joined. -/
import Derived.Test.YtepneflbhpidbaaGreatDoorPkSkipReadsC
import Derived.Test.YtepneflbhpidbaaGreatDoorPkSkipReadsA
import Derived.Test.YtepneflbhpidbaaGreatDoorPkSkipReadsB
import Derived.Test.YtepneflbhpidbaaGreatDoorPkSkipReadsXAbB
import Derived.ProofKit
import Derived.OpenShut
import Derived.ChangeOld
import Derived.Below
namespace Go.Proofs.YtepneflbhpidbaaGreatDoor
set_option maxRecDepth 100000
set_option maxHeartbeats 6400000
open Go.RowKit
set_option linter.unusedVariables false
set_option linter.unusedSimpArgs false
section
attribute [local go_sem] opx opE ev okx gcond bnd okO AV.get AV.okb cAV upd_at putd_some putd_none wrs_nil wrs_cons look_nil look_cons st argT_at bpick_and bpick_or bpick_true bpick_false binV binI binS binVOk binOk isShift binSOk unV unVOk loadV loadP cellsA zeroA Blkd.len setE grown moreA moreR moreOk eqRes pv fillA fillE putSeg AV.cellish AV.pureL AV.pureB lentL_is ex_some AV.ren AV.renL renL_c Blkd.ren rho wrM renN lentOk rhoE keepM endOk tyA_2 tyA_3 tyA_4 tyA_5 tyA_6 tyA_7 tyA_8 tyA_9 tyA_10 tyA_11 tyA_12 tyA_13 tyA_14 tyA_15 tyA_16 tyA_17 tyA_18 tyA_19 tyA_21 tyA_22 tyA_23 tyA_24 tyA_29 tyA_30 tyA_31 tyA_32 tyA_33 tyA_34 tyA_35 tyA_36 tyA_37 tyA_38 tyA_39 tyA_40 tyA_41 tyA_42 tyA_43 tyA_48 tyA_72 tyA_76 tyA_85 tyA_86 tyA_87 tyA_88 tyA_97 tyA_100 tyA_101 tyA_102 tyA_103 tyA_104 tyA_105 tyA_106 tyA_128 tyA_137 tyA_138 tyA_139 tyA_140 tyA_141 tyA_142 tyA_147 tyA_148 tyA_149 tyA_167 tyA_168 tyA_169 tyA_170 tyA_172 tyA_176 tyA_177 tyA_178 tyA_186 tyA_196 tyA_231 tyA_232 tyA_233 tyA_257 tyA_262 tyA_268 tyA_270 tyA_272 tyA_281 tyA_285 tyA_287 tyA_290 tyA_291 tyA_292 tyA_293 tyA_294 tyA_295 tyA_296 tyA_298 tyA_299 Option.map_some Option.map_none Option.getD_some Option.getD_none Option.bind_some Option.bind_none List.getElem?_cons_zero List.getElem?_cons_succ List.getElem?_nil List.getElem?_toArray List.length_cons List.length_nil List.length_map List.forall_mem_map List.map_cons List.map_nil List.drop_zero List.drop_succ_cons List.drop_nil List.take_zero List.take_succ_cons List.take_nil List.mem_cons List.not_mem_nil or_false forall_eq_or_imp forall_eq List.set_cons_zero List.set_cons_succ List.cons_append List.nil_append List.append_nil List.foldl_cons List.foldl_nil List.replicate_succ List.replicate_zero List.all_cons List.all_nil if_true if_false Bool.false_eq_true ne_eq not_false_eq_true not_true_eq_false true_and and_true and_self true_implies imp_self implies_true forall_const beq_self_eq_true Bool.and_true Bool.true_and Bool.and_false Bool.false_and Bool.or_true Bool.true_or Bool.or_false Bool.false_or Bool.not_true Bool.not_false Bool.not_eq_eq_eq_not intKindOf Value.oneCell' Int.toNat_natCast beq_true beq_false Bool.not_eq_true false_implies false_or true_or or_true Nat.zero_add Nat.add_zero decide_true decide_false Int.cast_ofNat_Int Int.toNat_zero Int.toNat_one eq_self

def cntX (B : List UInt8) (h p : Nat) : Nat × Nat × Int :=
 if (lft rlong 0 B p 0).2.2 ≠ 0 then (0, (lft rlong 0 B p 0).2) else
 if (lft rlong 0 B p 0).1 < 0 then
  if (lft rlong 0 B (lft rlong 0 B p 0).2.1 0).2.2 ≠ 0 then (0, (lft rlong 0 B (lft rlong 0 B p 0).2.1 0).2) else
  if (300 : Int) - h < -(lft rlong 0 B p 0).1 then (0, (lft rlong 0 B (lft rlong 0 B p 0).2.1 0).2.1, 15) else ((-(lft rlong 0 B p 0).1).toNat, (lft rlong 0 B (lft rlong 0 B p 0).2.1 0).2.1, 0)
 else if (300 : Int) - h < (lft rlong 0 B p 0).1 then (0, (lft rlong 0 B p 0).2.1, 15) else ((lft rlong 0 B p 0).1.toNat, (lft rlong 0 B p 0).2.1, 0)
def restS (f : List VT → List (List UInt8) → Nat → (List VT × List (List UInt8)) × Nat × Int) : Except (Nat × Int) (List VT × List (List UInt8) × Nat) → (List VT × List (List UInt8)) × Nat × Int
 | .error r => (([], []), r)
 | .ok t => f t.1 t.2.1 t.2.2
theorem cntX_ok (B : List UInt8) : CntOk B (cntX B) := by
 intro h p hh hp
 have hg := got_lft fair_long 0 hp 0
 have hi := hg.is fair_long
 have hrc : ∀ n q, rlong B p = .ok (n, q) → rcount h B p = (if n < 0 then rbind rlong fun _ => if (300 : Int) - h < -n then rbad 15 else rret (-n).toNat else if (300 : Int) - h < n then rbad 15 else rret n.toNat) B q := fun n q hr => by unfold rcount; rw [rbind_ok hr]
 unfold cntX
 generalize lft rlong 0 B p 0 = L at hg hi
 obtain ⟨n, q, E⟩ := L
 simp only [] at hg hi ⊢
 by_cases h0 : E = 0
 rotate_left
 · rw [if_pos h0]
   exact ⟨got_of hg.le (fun h => absurd h h0) fun _ => by unfold rcount; rw [rbind_bad (hi.2 h0)], fun _ => rfl⟩
 rw [if_neg (not_not_intro h0)]
 have hr := hrc _ _ (hi.1 h0)
 by_cases h1 : n < 0
 · rw [if_pos h1] at hr ⊢
   have hg2 := got_lft fair_long 0 hg.le 0
   have hi2 := hg2.is fair_long
   generalize lft rlong 0 B q 0 = K at hg2 hi2
   obtain ⟨n2, q2, E2⟩ := K
   simp only [] at hg2 hi2 ⊢
   by_cases h2 : E2 = 0
   rotate_left
   · rw [if_pos h2]
     exact ⟨got_of hg2.le (fun h => absurd h h2) fun _ => by rw [hr, rbind_bad (hi2.2 h2)], fun _ => rfl⟩
   rw [if_neg (not_not_intro h2)]
   by_cases h3 : (300 : Int) - h < -n
   · rw [if_pos h3]
     exact ⟨got_of hg2.le (fun h => absurd h (show ¬ ((15 : Int) = 0) by decide)) fun _ => by rw [hr, rbind_ok (hi2.1 h2), if_pos h3]; rfl, fun _ => rfl⟩
   · rw [if_neg h3]
     exact ⟨got_of hg2.le (fun _ => by rw [hr, rbind_ok (hi2.1 h2), if_neg h3]; rfl) fun h => absurd rfl h, fun h => absurd rfl h⟩
 · rw [if_neg h1] at hr ⊢
   by_cases h3 : (300 : Int) - h < n
   · rw [if_pos h3]
     exact ⟨got_of hg.le (fun h => absurd h (show ¬ ((15 : Int) = 0) by decide)) fun _ => by rw [hr, if_pos h3]; rfl, fun _ => rfl⟩
   · rw [if_neg h3]
     exact ⟨got_of hg.le (fun _ => by rw [hr, if_neg h3]; rfl) fun h => absurd rfl h, fun h => absurd rfl h⟩
theorem kblocks_told (ns : List NT) (r : Int) (B : List UInt8) (hB : B.length ≤ 1000000) (nd : NT) (dep : Nat) (val : Nat → Int → VT × Nat × Int) (p0 : Nat) (hp0 : p0 ≤ B.length) (e0 : Int) (hV : e0 = 0 → KasT ns r B nd.items dep val) (hle : e0 = 0 → ∀ p e, p ≤ B.length → (val p e).2.1 ≤ B.length)
  (F : Nat × Int) (hF0 : e0 = 0 → F = (blkS (itemS (nd.kind == 12) B val) (cntX B) 301 [] [] p0).2) (hF1 : e0 ≠ 0 → F = (p0, e0)) :
  ToldM Tryz.prog 168 [.ref 1000000 1 0 0, nd.av, .c (.v (.int .i64 (dep : Int)))] [xB ns r B p0 e0] [some (xB ns r B F.1 F.2)] (.tup []) := by
 rw [NT.av_eq]
 unfold xB
 refine VC.toldX ent_168 [] Tryz.func168 rfl Tryz.ntmps168 fun hb hbL => ?_
 clear hb hbL
 refine walkG ?_
 generalize hm12 : (nd.kind == 12) = M at hF0
 refine VC.loop (ι := {s : (List VT × List (List UInt8) × Nat) × Int × Int × Nat // s.1.2.2 ≤ B.length ∧ (s.2.1 = 0 → e0 = 0 ∧ s.2.2.1 = (s.1.1.length : Int) ∧ s.1.1.length ≤ 300 ∧ 301 ≤ s.1.1.length + s.2.2.2 ∧ F = (blkS (itemS M B val) (cntX B) s.2.2.2 s.1.1 s.1.2.1 s.1.2.2).2) ∧ (s.2.1 ≠ 0 → F = (s.1.2.2, s.2.1))})
  (fun s => [(0, .ref 1000000 1 0 0), (2, .c (.v (.int .i64 (dep : Int)))), (4, .ref 0 1 0 0), (6, .c (.v (.int .i64 s.1.2.2.1)))])
  (fun s => [(0, ⟨false, 33, 10, [nd.cells.map .c]⟩), (1000000, ⟨false, 103, 5, [[.c (.sl 10 (ns.map NT.cells)), .c (.v (.int .i64 r)), .c (.sl 1 (bytePV B)), .c (.v (.int .i64 (s.1.1.2.2 : Int))), .c (.v (.int .i64 s.1.2.1))]]⟩)]) 800 (fun s => if s.1.2.1 = 0 then s.1.2.2.2 + 1 else 0)
  ⟨(([], [], p0), e0, 0, 301), hp0, fun h => ⟨h, rfl, by simp, by simp, hF0 h⟩, hF1⟩ ?_ ?_
 · exact weakZF (@ncells_mk)
 rintro ⟨⟨⟨xs, ks, p⟩, e, hv, k⟩, h1, h2, h3⟩
 simp only [] at h1 h2 h3 ⊢
 by_cases he : e = 0
 rotate_left
 · have e1 : (e == 0) = false := by simpa using he
   have h3 := h3 he
   subst h3
   refine walkBF (e1) ?_
   exact retZ Tryz.results168
 subst he
 obtain ⟨he0, rfl, h4, h5, h6⟩ := h2 rfl
 have hV := hV he0
 have hle := hle he0
 obtain ⟨k, rfl⟩ : ∃ k', k = k' + 1 := ⟨k - 1, by omega⟩
 rw [blkS] at h6
 have hN := knumber_told ns r B hB p h1 0
 have hg := (got_lft fair_long 0 h1 0).le
 have hz := lft_zero (f := rlong) (0 : Int) (B := B) (p := p) (e := 0)
 have hc : cntX B xs.length p = cntX B xs.length p := rfl
 conv at hc => rhs; unfold cntX
 generalize lft rlong 0 B p 0 = L at hN hg hz hc
 obtain ⟨n, q, E⟩ := L
 simp only [] at hN hg hz hc
 have hw3 : IntKind.i64.wrap (300 - (xs.length : Int)) = 300 - (xs.length : Int) := wrap64_id (by omega) (by omega)
 unfold xB at hN
 by_cases hE : E = 0
 rotate_left
 · rw [if_pos hE] at hc
   rw [hc, headS, if_pos rfl] at h6
   obtain rfl := hz hE
   have hF2 := kfail_told ns r B q E 15 false
   rw [if_neg (by decide)] at hF2
   unfold xB at hF2
   have e1 : decide ((0 : Int) > 300 - (xs.length : Int)) = false := by simp; omega
   subst h6
   refine walkB ?_
   refine walkLF (@ncells_mk) [1000000] (hN) ?_
   refine walkBF (And.intro @ncells_mk (And.intro hw3 e1)) ?_
   refine walkLF (@ncells_mk) [1000000] (hF2) ?_
   refine walkB ?_
   exact retZF (@ncells_mk) Tryz.results168
 subst hE
 rw [if_neg (by decide)] at hc
 clear hz
 by_cases hn0 : n = 0
 · subst hn0
   rw [if_neg (by decide), if_neg (by omega)] at hc
   rw [hc, headS, if_pos (show ((0 : Int).toNat, q, (0 : Int)).1 = 0 from rfl)] at h6
   have hF2 := kfail_told ns r B q 0 15 false
   rw [if_neg (by decide)] at hF2
   unfold xB at hF2
   have e1 : decide ((0 : Int) > 300 - (xs.length : Int)) = false := by simp; omega
   subst h6
   refine walkB ?_
   refine walkLF (@ncells_mk) [1000000] (hN) ?_
   refine walkBF (And.intro @ncells_mk (And.intro hw3 e1)) ?_
   refine walkLF (@ncells_mk) [1000000] (hF2) ?_
   refine walkB ?_
   exact retZF (@ncells_mk) Tryz.results168
 by_cases hn : n < 0
 · have hN2 := knumber_told ns r B hB q hg 0
   have hg2 := (got_lft fair_long 0 hg 0).le
   rw [if_pos hn] at hc
   generalize lft rlong 0 B q 0 = K at hN2 hg2 hc
   obtain ⟨n2, Q1, E2⟩ := K
   simp only [] at hN2 hg2 hc
   have hQ1 := hg2
   obtain ⟨Mn, hMn⟩ : ∃ Mn, Mn = -(max n (-301)) := ⟨_, rfl⟩
   have hMr : 0 < Mn ∧ Mn ≤ 301 ∧ ((300 : Int) - xs.length < -n ↔ (300 : Int) - xs.length < Mn) ∧ (Mn ≤ 300 → Mn = -n) := by omega
   have hwn : IntKind.i64.wrap (0 - (max n (-301))) = Mn := by rw [wrap64_id (by omega) (by omega), hMn]; omega
   have hF2 := kfail_told ns r B Q1 E2 15 (decide (Mn > 300 - (xs.length : Int)))
   obtain ⟨E1, hE1⟩ : ∃ E1, E1 = (if decide (Mn > 300 - (xs.length : Int)) = true then (if E2 = 0 then (15 : Int) else E2) else E2) := ⟨_, rfl⟩
   rw [← hE1] at hF2
   obtain ⟨HV, hHV⟩ : ∃ HV, HV = IntKind.i64.wrap ((xs.length : Int) + Mn) := ⟨_, rfl⟩
   have hwH := hHV.symm
   rw [wrap64_id (by omega) (by omega)] at hHV
   have eM0 : (Mn == 0) = false := by simp; omega
   have hc1 : E1 = 0 → cntX B xs.length p = (Mn.toNat, Q1, 0) := fun h => by
    rw [hE1] at h
    by_cases g : Mn > 300 - (xs.length : Int)
    · rw [if_pos (by simpa using g)] at h
      split at h <;> omega
    · rw [if_neg (by simpa using g)] at h
      rw [hc, if_neg (not_not_intro h), if_neg (by omega), hMr.2.2.2 (by omega)]
   have hc2 : E1 ≠ 0 → cntX B xs.length p = (0, Q1, E1) := fun h => by
    rw [hc]
    by_cases g0 : E2 = 0
    · rw [if_neg (not_not_intro g0)]
      by_cases g : Mn > 300 - (xs.length : Int)
      · rw [if_pos (by omega), hE1, if_pos (by simpa using g), if_pos g0]
      · rw [hE1, if_neg (by simpa using g)] at h
        exact absurd g0 h
    · rw [if_pos g0, hE1, if_neg g0]
      split <;> rfl
   have hM : E1 = 0 → HV = (xs.length : Int) + Mn ∧ (xs.length : Int) + Mn ≤ 300 := fun h => ⟨hHV, by
    rw [hE1] at h
    by_cases g : Mn > 300 - (xs.length : Int)
    · rw [if_pos (by simpa using g)] at h
      split at h <;> omega
    · omega⟩
   clear hE1 hc
   have hn' : decide (n < 0) = true := by simpa using hn
   unfold xB at hN2 hF2
   refine walkB ?_
   refine walkLF (@ncells_mk) [1000000] (hN) ?_
   refine walkBF (And.intro @ncells_mk hn') ?_
   refine walkLF (@ncells_mk) [1000000] (hN2) ?_
   refine walkBF (And.intro @ncells_mk (And.intro hwn hw3)) ?_
   refine walkLF (@ncells_mk) [1000000] (hF2) ?_
   refine walkBF (And.intro @ncells_mk (And.intro eM0 hwH)) ?_
   obtain ⟨RW, hRW⟩ : ∃ RW, RW = if E1 = 0 then rowS (itemS M B val) Mn.toNat xs ks Q1 else .error (Q1, E1) := ⟨_, rfl⟩
   have hFR : F = (restS (blkS (itemS M B val) (cntX B) k) RW).2 := by
    rw [hRW]
    by_cases h0 : E1 = 0
    · rw [if_pos h0]
      rw [(hc1 h0), headS, if_neg (by simp only []; omega)] at h6
      exact h6
    · rw [if_neg h0]
      rw [(hc2 h0), headS, if_pos rfl] at h6
      exact h6
   refine VC.loop (ι := {s : Nat × List VT × List (List UInt8) × Nat × Int // s.2.2.2.1 ≤ B.length ∧ (s.2.2.2.2 = 0 → E1 = 0 ∧ (s.1 : Int) ≤ Mn ∧ s.2.1.length = xs.length + s.1 ∧ RW = rowS (itemS M B val) (Mn.toNat - s.1) s.2.1 s.2.2.1 s.2.2.2.1) ∧ (s.2.2.2.2 ≠ 0 → RW = .error (s.2.2.2.1, s.2.2.2.2))})
    (fun s => [(0, .ref 1000000 1 0 0), (2, .c (.v (.int .i64 (dep : Int)))), (4, .ref 0 1 0 0), (6, .c (.v (.int .i64 HV))), (7, .c (.v (.int .i64 Mn))), (8, .c (.v (.int .i64 (s.1.1 : Int))))])
    (fun s => [(0, ⟨false, 33, 10, [nd.cells.map .c]⟩), (1000000, ⟨false, 103, 5, [[.c (.sl 10 (ns.map NT.cells)), .c (.v (.int .i64 r)), .c (.sl 1 (bytePV B)), .c (.v (.int .i64 (s.1.2.2.2.1 : Int))), .c (.v (.int .i64 s.1.2.2.2.2))]]⟩)]) 4000 (fun s => if s.1.2.2.2.2 = 0 then Mn.toNat - s.1.1 + 1 else 0)
    ⟨(0, xs, ks, Q1, E1), hQ1, fun h => ⟨h, by simp only []; omega, rfl, by rw [hRW, if_pos h]; rfl⟩, fun h => by rw [hRW, if_neg h]⟩ ?_ ?_
   · exact weakZF (@ncells_mk)
   rintro ⟨⟨i, ys, js, u, e⟩, i1, i2, i3⟩
   simp only [] at i1 i2 i3 ⊢
   by_cases he : e = 0
   rotate_left
   · have e1 : (e == 0) = false := by simpa using he
     have i3 := i3 he
     rw [i3, restS] at hFR
     cases hi : decide ((i : Int) < Mn) with
     | true =>
       refine walkBF (And.intro hi e1) ?_
       refine .next ⟨((ys, js, u), e, HV, k), i1, fun h => absurd h he, fun _ => hFR⟩ ?_ (by simp only []; rw [if_neg he]; simp)
       exact weakZF (@ncells_mk)
     | false =>
       refine walkBF (hi) ?_
       refine .next ⟨((ys, js, u), e, HV, k), i1, fun h => absurd h he, fun _ => hFR⟩ ?_ (by simp only []; rw [if_neg he]; simp)
       exact weakZF (@ncells_mk)
   subst he
   obtain ⟨j1, j2, j3, j4⟩ := i2 rfl
   obtain ⟨hHV, hMm⟩ := hM j1
   by_cases hi : (i : Int) < Mn
   rotate_left
   · have hie : Mn.toNat - i = 0 := by omega
     rw [hie, rowS] at j4
     rw [j4, restS] at hFR
     have hi' : decide ((i : Int) < Mn) = false := by simpa using hi
     refine walkBF (hi') ?_
     refine .next ⟨((ys, js, u), 0, HV, k), i1, fun _ => ⟨he0, by simp only []; omega, by simp only []; omega, by simp only []; omega, hFR⟩, fun h => absurd rfl h⟩ ?_ (by simp)
     exact weakZF (@ncells_mk)
   have hi' : decide ((i : Int) < Mn) = true := by simpa using hi
   obtain ⟨z, hz⟩ : ∃ z, Mn.toNat - i = z + 1 := ⟨Mn.toNat - i - 1, by omega⟩
   have hz' : Mn.toNat - (i + 1) = z := by omega
   rw [hz, rowS] at j4
   have hw : IntKind.i64.wrap ((i : Int) + 1) = ((i + 1 : Nat) : Int) := by rw [wrap64_id (by omega) (by omega)]; omega
   cases M with
   | true =>
     have e12 : (nd.kind == 12) = true := hm12
     have hT := wtext_told B hB u i1 0
     have htl := (got_lft fair_text [] i1 0).le
     rw [itemS, if_pos (show true = true from rfl)] at j4
     obtain ⟨y, q1, x1, hL⟩ : ∃ a b c, lft rtext [] B u 0 = (a, b, c) := ⟨_, _, _, rfl⟩
     rw [hL] at hT htl j4
     simp only [] at hT htl j4
     unfold rC at hT
     have hX := hV q1 x1 htl
     have hql := hle q1 x1 htl
     obtain ⟨v, q2, e2, hvv⟩ : ∃ a b c, val q1 x1 = (a, b, c) := ⟨_, _, _, rfl⟩
     rw [hvv] at hX hql j4
     simp only [] at hX hql j4
     unfold xB at hX
     refine walkBF (And.intro hi' (And.intro @ncells_mk e12)) ?_
     refine walkCF (@ncells_mk) (hT) ?_
     refine walkBF (@ncells_mk) ?_
     refine walkLF (@ncells_mk) [1000000] (hX) ?_
     refine walkBF (And.intro @ncells_mk hw) ?_
     by_cases he2 : e2 = 0
     · rw [if_pos he2] at j4
       refine .next ⟨(i + 1, ys ++ [v], js ++ [y], q2, e2), hql, fun _ => ⟨j1, by simp only []; omega, by simp only [List.length_append, List.length_singleton]; omega, by simp only []; rw [hz']; exact j4⟩, fun h => absurd he2 h⟩ ?_ (by simp only []; rw [if_pos he2]; simp; omega)
       exact weakZF (@ncells_mk)
     · rw [if_neg he2] at j4
       refine .next ⟨(i + 1, ys, js, q2, e2), hql, fun h => absurd h he2, fun _ => j4⟩ ?_ (by simp only []; rw [if_neg he2]; simp)
       exact weakZF (@ncells_mk)
   | false =>
     have e12 : (nd.kind == 12) = false := hm12
     rw [itemS, if_neg (show ¬ (false = true) by decide)] at j4
     have hX := hV u 0 i1
     have hql := hle u 0 i1
     obtain ⟨v, q2, e2, hvv⟩ : ∃ a b c, val u 0 = (a, b, c) := ⟨_, _, _, rfl⟩
     rw [hvv] at hX hql j4
     simp only [] at hX hql j4
     unfold xB at hX
     refine walkBF (And.intro hi' (And.intro @ncells_mk e12)) ?_
     refine walkLF (@ncells_mk) [1000000] (hX) ?_
     refine walkBF (And.intro @ncells_mk hw) ?_
     by_cases he2 : e2 = 0
     · rw [if_pos he2] at j4
       refine .next ⟨(i + 1, ys ++ [v], js ++ [], q2, e2), hql, fun _ => ⟨j1, by simp only []; omega, by simp only [List.length_append, List.length_singleton]; omega, by simp only []; rw [hz']; exact j4⟩, fun h => absurd he2 h⟩ ?_ (by simp only []; rw [if_pos he2]; simp; omega)
       exact weakZF (@ncells_mk)
     · rw [if_neg he2] at j4
       refine .next ⟨(i + 1, ys, js, q2, e2), hql, fun h => absurd h he2, fun _ => j4⟩ ?_ (by simp only []; rw [if_neg he2]; simp)
       exact weakZF (@ncells_mk)
 · have hQ1 := hg
   rw [if_neg hn] at hc
   have hF2 := kfail_told ns r B q 0 15 (decide (n > 300 - (xs.length : Int)))
   rw [if_pos rfl] at hF2
   obtain ⟨E1, hE1⟩ : ∃ E1, E1 = (if decide (n > 300 - (xs.length : Int)) = true then (15 : Int) else 0) := ⟨_, rfl⟩
   rw [← hE1] at hF2
   obtain ⟨HV, hHV⟩ : ∃ HV, HV = IntKind.i64.wrap ((xs.length : Int) + n) := ⟨_, rfl⟩
   have hwH := hHV.symm
   have eM0 : (n == 0) = false := by simpa using hn0
   have hc1 : E1 = 0 → cntX B xs.length p = (n.toNat, q, 0) := fun h => by
    rw [hE1] at h
    by_cases g : n > 300 - (xs.length : Int)
    · rw [if_pos (by simpa using g)] at h
      omega
    · rw [hc, if_neg (by omega)]
   have hc2 : E1 ≠ 0 → cntX B xs.length p = (0, q, E1) := fun h => by
    rw [hc]
    by_cases g : n > 300 - (xs.length : Int)
    · rw [if_pos (by omega), hE1, if_pos (by simpa using g)]
    · rw [hE1, if_neg (by simpa using g)] at h
      exact absurd rfl h
   have hM : E1 = 0 → HV = (xs.length : Int) + n ∧ (xs.length : Int) + n ≤ 300 := fun h => by
    rw [hE1] at h
    by_cases g : n > 300 - (xs.length : Int)
    · rw [if_pos (by simpa using g)] at h
      omega
    · exact ⟨by rw [hHV, wrap64_id (by omega) (by omega)], by omega⟩
   clear hE1 hc
   have hn' : decide (n < 0) = false := by simpa using hn
   unfold xB at hF2
   refine walkB ?_
   refine walkLF (@ncells_mk) [1000000] (hN) ?_
   refine walkBF (And.intro @ncells_mk (And.intro hn' hw3)) ?_
   refine walkLF (@ncells_mk) [1000000] (hF2) ?_
   refine walkBF (And.intro @ncells_mk (And.intro eM0 hwH)) ?_
   obtain ⟨RW, hRW⟩ : ∃ RW, RW = if E1 = 0 then rowS (itemS M B val) n.toNat xs ks q else .error (q, E1) := ⟨_, rfl⟩
   have hFR : F = (restS (blkS (itemS M B val) (cntX B) k) RW).2 := by
    rw [hRW]
    by_cases h0 : E1 = 0
    · rw [if_pos h0]
      rw [(hc1 h0), headS, if_neg (by simp only []; omega)] at h6
      exact h6
    · rw [if_neg h0]
      rw [(hc2 h0), headS, if_pos rfl] at h6
      exact h6
   refine VC.loop (ι := {s : Nat × List VT × List (List UInt8) × Nat × Int // s.2.2.2.1 ≤ B.length ∧ (s.2.2.2.2 = 0 → E1 = 0 ∧ (s.1 : Int) ≤ n ∧ s.2.1.length = xs.length + s.1 ∧ RW = rowS (itemS M B val) (n.toNat - s.1) s.2.1 s.2.2.1 s.2.2.2.1) ∧ (s.2.2.2.2 ≠ 0 → RW = .error (s.2.2.2.1, s.2.2.2.2))})
    (fun s => [(0, .ref 1000000 1 0 0), (2, .c (.v (.int .i64 (dep : Int)))), (4, .ref 0 1 0 0), (6, .c (.v (.int .i64 HV))), (7, .c (.v (.int .i64 n))), (8, .c (.v (.int .i64 (s.1.1 : Int))))])
    (fun s => [(0, ⟨false, 33, 10, [nd.cells.map .c]⟩), (1000000, ⟨false, 103, 5, [[.c (.sl 10 (ns.map NT.cells)), .c (.v (.int .i64 r)), .c (.sl 1 (bytePV B)), .c (.v (.int .i64 (s.1.2.2.2.1 : Int))), .c (.v (.int .i64 s.1.2.2.2.2))]]⟩)]) 4000 (fun s => if s.1.2.2.2.2 = 0 then n.toNat - s.1.1 + 1 else 0)
    ⟨(0, xs, ks, q, E1), hQ1, fun h => ⟨h, by simp only []; omega, rfl, by rw [hRW, if_pos h]; rfl⟩, fun h => by rw [hRW, if_neg h]⟩ ?_ ?_
   · exact weakZF (@ncells_mk)
   rintro ⟨⟨i, ys, js, u, e⟩, i1, i2, i3⟩
   simp only [] at i1 i2 i3 ⊢
   by_cases he : e = 0
   rotate_left
   · have e1 : (e == 0) = false := by simpa using he
     have i3 := i3 he
     rw [i3, restS] at hFR
     cases hi : decide ((i : Int) < n) with
     | true =>
       refine walkBF (And.intro hi e1) ?_
       refine .next ⟨((ys, js, u), e, HV, k), i1, fun h => absurd h he, fun _ => hFR⟩ ?_ (by simp only []; rw [if_neg he]; simp)
       exact weakZF (@ncells_mk)
     | false =>
       refine walkBF (hi) ?_
       refine .next ⟨((ys, js, u), e, HV, k), i1, fun h => absurd h he, fun _ => hFR⟩ ?_ (by simp only []; rw [if_neg he]; simp)
       exact weakZF (@ncells_mk)
   subst he
   obtain ⟨j1, j2, j3, j4⟩ := i2 rfl
   obtain ⟨hHV, hMm⟩ := hM j1
   by_cases hi : (i : Int) < n
   rotate_left
   · have hie : n.toNat - i = 0 := by omega
     rw [hie, rowS] at j4
     rw [j4, restS] at hFR
     have hi' : decide ((i : Int) < n) = false := by simpa using hi
     refine walkBF (hi') ?_
     refine .next ⟨((ys, js, u), 0, HV, k), i1, fun _ => ⟨he0, by simp only []; omega, by simp only []; omega, by simp only []; omega, hFR⟩, fun h => absurd rfl h⟩ ?_ (by simp)
     exact weakZF (@ncells_mk)
   have hi' : decide ((i : Int) < n) = true := by simpa using hi
   obtain ⟨z, hz⟩ : ∃ z, n.toNat - i = z + 1 := ⟨n.toNat - i - 1, by omega⟩
   have hz' : n.toNat - (i + 1) = z := by omega
   rw [hz, rowS] at j4
   have hw : IntKind.i64.wrap ((i : Int) + 1) = ((i + 1 : Nat) : Int) := by rw [wrap64_id (by omega) (by omega)]; omega
   cases M with
   | true =>
     have e12 : (nd.kind == 12) = true := hm12
     have hT := wtext_told B hB u i1 0
     have htl := (got_lft fair_text [] i1 0).le
     rw [itemS, if_pos (show true = true from rfl)] at j4
     obtain ⟨y, q1, x1, hL⟩ : ∃ a b c, lft rtext [] B u 0 = (a, b, c) := ⟨_, _, _, rfl⟩
     rw [hL] at hT htl j4
     simp only [] at hT htl j4
     unfold rC at hT
     have hX := hV q1 x1 htl
     have hql := hle q1 x1 htl
     obtain ⟨v, q2, e2, hvv⟩ : ∃ a b c, val q1 x1 = (a, b, c) := ⟨_, _, _, rfl⟩
     rw [hvv] at hX hql j4
     simp only [] at hX hql j4
     unfold xB at hX
     refine walkBF (And.intro hi' (And.intro @ncells_mk e12)) ?_
     refine walkCF (@ncells_mk) (hT) ?_
     refine walkBF (@ncells_mk) ?_
     refine walkLF (@ncells_mk) [1000000] (hX) ?_
     refine walkBF (And.intro @ncells_mk hw) ?_
     by_cases he2 : e2 = 0
     · rw [if_pos he2] at j4
       refine .next ⟨(i + 1, ys ++ [v], js ++ [y], q2, e2), hql, fun _ => ⟨j1, by simp only []; omega, by simp only [List.length_append, List.length_singleton]; omega, by simp only []; rw [hz']; exact j4⟩, fun h => absurd he2 h⟩ ?_ (by simp only []; rw [if_pos he2]; simp; omega)
       exact weakZF (@ncells_mk)
     · rw [if_neg he2] at j4
       refine .next ⟨(i + 1, ys, js, q2, e2), hql, fun h => absurd h he2, fun _ => j4⟩ ?_ (by simp only []; rw [if_neg he2]; simp)
       exact weakZF (@ncells_mk)
   | false =>
     have e12 : (nd.kind == 12) = false := hm12
     rw [itemS, if_neg (show ¬ (false = true) by decide)] at j4
     have hX := hV u 0 i1
     have hql := hle u 0 i1
     obtain ⟨v, q2, e2, hvv⟩ : ∃ a b c, val u 0 = (a, b, c) := ⟨_, _, _, rfl⟩
     rw [hvv] at hX hql j4
     simp only [] at hX hql j4
     unfold xB at hX
     refine walkBF (And.intro hi' (And.intro @ncells_mk e12)) ?_
     refine walkLF (@ncells_mk) [1000000] (hX) ?_
     refine walkBF (And.intro @ncells_mk hw) ?_
     by_cases he2 : e2 = 0
     · rw [if_pos he2] at j4
       refine .next ⟨(i + 1, ys ++ [v], js ++ [], q2, e2), hql, fun _ => ⟨j1, by simp only []; omega, by simp only [List.length_append, List.length_singleton]; omega, by simp only []; rw [hz']; exact j4⟩, fun h => absurd he2 h⟩ ?_ (by simp only []; rw [if_pos he2]; simp; omega)
       exact weakZF (@ncells_mk)
     · rw [if_neg he2] at j4
       refine .next ⟨(i + 1, ys, js, q2, e2), hql, fun h => absurd h he2, fun _ => j4⟩ ?_ (by simp only []; rw [if_neg he2]; simp)
       exact weakZF (@ncells_mk)

theorem kpastc_any (ns : List NT) (r : Int) (B : List UInt8) (a : Nat) (nd : NT) (hnd : ns[a]? = some nd) (hk : nd.kind = 9 ∨ nd.kind = 11 ∨ nd.kind = 12 ∨ nd.kind = 13) (dep : Nat) (hd : dep ≤ 20) (is : Bool) (his : ((dep : Int) == 20) = is) (p q : Nat) (e e' E : Int) (hE : E = if is = true then (if e = 0 then 15 else e) else e)
  (hT : ToldM Tryz.prog 114 [.ref 1000000 1 0 0, nd.av, .c (.v (.int .i64 ((dep + 1 : Nat) : Int)))] [xB ns r B p E] [some (xB ns r B q e')] (.tup [])) :
  ToldM Tryz.prog 61 [.ref 1000000 1 0 0, .c (.v (.int .i64 (a : Int))), .c (.v (.int .i64 (dep : Int)))] [xB ns r B p e] [some (xB ns r B q e')] (.tup []) := by
 have hnp : (ns.map NT.cells)[a]? = some nd.cells := by rw [List.getElem?_map, hnd]; rfl
 have ha : a < ns.length := (List.getElem?_eq_some_iff.1 hnd).1
 have e2 : (nd.kind == 2) = false := by rcases hk with h | h | h | h <;> rw [h] <;> rfl
 have e10 : (nd.kind == 10) = false := by rcases hk with h | h | h | h <;> rw [h] <;> rfl
 have e3 : (nd.kind == 3) = false := by rcases hk with h | h | h | h <;> rw [h] <;> rfl
 have e4 : (nd.kind == 4) = false := by rcases hk with h | h | h | h <;> rw [h] <;> rfl
 have e5 : (nd.kind == 5) = false := by rcases hk with h | h | h | h <;> rw [h] <;> rfl
 have e6 : (nd.kind == 6) = false := by rcases hk with h | h | h | h <;> rw [h] <;> rfl
 have e7 : (nd.kind == 7) = false := by rcases hk with h | h | h | h <;> rw [h] <;> rfl
 have e8 : (nd.kind == 8) = false := by rcases hk with h | h | h | h <;> rw [h] <;> rfl
 have e14 : (nd.kind == 14) = false := by rcases hk with h | h | h | h <;> rw [h] <;> rfl
 have hw : IntKind.i64.wrap ((dep : Int) + 1) = ((dep + 1 : Nat) : Int) := by rw [wrap64_id (by omega) (by omega)]; omega
 have hF := kfail_told ns r B p e 15 is
 rw [← hE] at hF
 clear hE
 rw [NT.av_eq] at hT
 unfold xB at *
 have hcase : ∀ (b9 b13 b11 b12 : Bool), (nd.kind == 9) = b9 → (nd.kind == 13) = b13 → (nd.kind == 11) = b11 → (nd.kind == 12) = b12 → (b9 = true ∨ (b9 = false ∧ b13 = true) ∨ (b9 = false ∧ b13 = false ∧ b11 = true) ∨ (b9 = false ∧ b13 = false ∧ b11 = false ∧ b12 = true)) →
   ToldM Tryz.prog 61 [.ref 1000000 1 0 0, .c (.v (.int .i64 (a : Int))), .c (.v (.int .i64 (dep : Int)))] [⟨false, 103, 5, [[.c (.sl 10 (ns.map NT.cells)), .c (.v (.int .i64 r)), .c (.sl 1 (bytePV B)), .c (.v (.int .i64 (p : Int))), .c (.v (.int .i64 e))]]⟩] [some ⟨false, 103, 5, [[.c (.sl 10 (ns.map NT.cells)), .c (.v (.int .i64 r)), .c (.sl 1 (bytePV B)), .c (.v (.int .i64 (q : Int))), .c (.v (.int .i64 e'))]]⟩] (.tup []) := by
  intro b9 b13 b11 b12 g9 g13 g11 g12 hb
  rcases hb with rfl | ⟨rfl, rfl⟩ | ⟨rfl, rfl, rfl⟩ | ⟨rfl, rfl, rfl, rfl⟩
  · refine VC.toldX ent_61 [] Tryz.func61 rfl Tryz.ntmps61 fun hb hbL => ?_
    clear hb hbL
    refine walkBF (And.intro hnp (And.intro @ncells_mk (And.intro @len_ncells (And.intro e2 (And.intro e10 (And.intro e3 (And.intro e4 (And.intro e5 (And.intro e6 (And.intro e7 (And.intro e8 (And.intro e14 (And.intro g9 his))))))))))))) ?_
    refine walkLF (@ncells_mk) [1000000] (hF) ?_
    refine walkBF (And.intro @ncells_mk hw) ?_
    refine walkLF (@ncells_mk) [1000000] (hT) ?_
    refine walkBF (@ncells_mk) ?_
    exact retZ Tryz.results61
  · refine VC.toldX ent_61 [] Tryz.func61 rfl Tryz.ntmps61 fun hb hbL => ?_
    clear hb hbL
    refine walkBF (And.intro hnp (And.intro @ncells_mk (And.intro @len_ncells (And.intro e2 (And.intro e10 (And.intro e3 (And.intro e4 (And.intro e5 (And.intro e6 (And.intro e7 (And.intro e8 (And.intro e14 (And.intro g9 (And.intro g13 his)))))))))))))) ?_
    refine walkLF (@ncells_mk) [1000000] (hF) ?_
    refine walkBF (And.intro @ncells_mk hw) ?_
    refine walkLF (@ncells_mk) [1000000] (hT) ?_
    refine walkBF (@ncells_mk) ?_
    exact retZ Tryz.results61
  · refine VC.toldX ent_61 [] Tryz.func61 rfl Tryz.ntmps61 fun hb hbL => ?_
    clear hb hbL
    refine walkBF (And.intro hnp (And.intro @ncells_mk (And.intro @len_ncells (And.intro e2 (And.intro e10 (And.intro e3 (And.intro e4 (And.intro e5 (And.intro e6 (And.intro e7 (And.intro e8 (And.intro e14 (And.intro g9 (And.intro g13 (And.intro g11 his))))))))))))))) ?_
    refine walkLF (@ncells_mk) [1000000] (hF) ?_
    refine walkBF (And.intro @ncells_mk hw) ?_
    refine walkLF (@ncells_mk) [1000000] (hT) ?_
    refine walkBF (@ncells_mk) ?_
    exact retZ Tryz.results61
  · refine VC.toldX ent_61 [] Tryz.func61 rfl Tryz.ntmps61 fun hb hbL => ?_
    clear hb hbL
    refine walkBF (And.intro hnp (And.intro @ncells_mk (And.intro @len_ncells (And.intro e2 (And.intro e10 (And.intro e3 (And.intro e4 (And.intro e5 (And.intro e6 (And.intro e7 (And.intro e8 (And.intro e14 (And.intro g9 (And.intro g13 (And.intro g11 (And.intro g12 his)))))))))))))))) ?_
    refine walkLF (@ncells_mk) [1000000] (hF) ?_
    refine walkBF (And.intro @ncells_mk hw) ?_
    refine walkLF (@ncells_mk) [1000000] (hT) ?_
    refine walkBF (@ncells_mk) ?_
    exact retZ Tryz.results61
 refine hcase _ _ _ _ rfl rfl rfl rfl ?_
 rcases hk with h | h | h | h <;> rw [h] <;> simp
theorem kcomp_no (ns : List NT) (r : Int) (B : List UInt8) (hB : B.length ≤ 1000000) (nd : NT) (hN : nodeM ns nd = true) (hk : nd.kind = 9 ∨ nd.kind = 11 ∨ nd.kind = 12 ∨ nd.kind = 13) (dep p : Nat) (hp : p ≤ B.length) (e : Int) (he : e ≠ 0) :
  ToldM Tryz.prog 114 [.ref 1000000 1 0 0, nd.av, .c (.v (.int .i64 (dep : Int)))] [xB ns r B p e] [some (xB ns r B p e)] (.tup []) := by
 unfold nodeM at hN
 simp only [Bool.and_eq_true, decide_eq_true_eq] at hN
 have hS := hN.2.2
 by_cases h9 : nd.kind = 9
 · rw [if_pos h9] at hS
   unfold fieldsM at hS
   simp only [Bool.and_eq_true, decide_eq_true_eq] at hS
   exact kcomp9_told ns r B hB nd h9 (by omega) dep (fun _ _ _ => (v0, 0, 0)) p hp e (fun h => absurd h he) (fun h => absurd h he) (p, e) (by rw [fldS_no he])
 by_cases h13 : nd.kind = 13
 · rw [h13, if_neg (by decide), if_neg (by decide), if_neg (by decide), if_pos rfl] at hS
   unfold unionM at hS
   simp only [Bool.and_eq_true, decide_eq_true_eq] at hS
   refine kcomp13_told ns r B hB nd h13 (by omega) dep (fun _ _ _ => (v0, 0, 0)) p hp e (fun h => absurd h he) _ rfl (p, e) ?_
   unfold plcS
   rw [lft_e _ _ _ _ he]
   simp only []
   rw [if_neg (show ¬ e = 0 from he)]
   split <;> simp [he]
 · exact kcomp11_told ns r B nd (by omega) dep p p e e (kblocks_told ns r B hB nd dep (fun _ _ => (v0, 0, 0)) p hp e (fun h => absurd h he) (fun h => absurd h he) (p, e) (fun h => absurd h he) (fun _ => rfl))
theorem pas_of {ns : List NT} {r : Int} {B : List UInt8} {dep : Nat} {f : Int → Rd VT} (H : ∀ a : Int, 0 ≤ a → a < (ns.length : Int) → ∀ p e, p ≤ B.length → PasE ns r B a dep (f a) p e) :
  ∃ val : Int → Nat → Int → VT × Nat × Int, ∀ a : Int, 0 ≤ a → a < (ns.length : Int) → (∀ p e, p ≤ B.length → Got (f a B p) B e (val a p e).1 (val a p e).2.1 (val a p e).2.2) ∧ KasT ns r B a dep (val a) := by
 have key : ∀ (a : Int) (p : Nat) (e : Int), ∃ t : VT × Nat × Int, 0 ≤ a → a < (ns.length : Int) → p ≤ B.length → Got (f a B p) B e t.1 t.2.1 t.2.2 ∧
   ToldM Tryz.prog 61 [.ref 1000000 1 0 0, .c (.v (.int .i64 a)), .c (.v (.int .i64 (dep : Int)))] [xB ns r B p e] [some (xB ns r B t.2.1 t.2.2)] (.tup []) := by
  intro a p e
  by_cases h : 0 ≤ a ∧ a < (ns.length : Int) ∧ p ≤ B.length
  · obtain ⟨v, q, e', h1, h2⟩ := H a h.1 h.2.1 p e h.2.2
    exact ⟨(v, q, e'), fun _ _ _ => ⟨h1, h2⟩⟩
  · exact ⟨(v0, 0, 0), fun h1 h2 h3 => absurd ⟨h1, h2, h3⟩ h⟩
 refine ⟨fun a p e => Classical.choose (key a p e), fun a h1 h2 => ⟨fun p e h3 => ?_, fun p e h3 => ?_⟩⟩
 · exact (Classical.choose_spec (key a p e) h1 h2 h3).1
 · exact (Classical.choose_spec (key a p e) h1 h2 h3).2
theorem kpast_told (s : ST) (hr : rightM s = true) (r : Int) (B : List UInt8) (hB : B.length ≤ 1000000) : ∀ (d : Nat), d ≤ 20 → ∀ a : Int, 0 ≤ a → a < (s.nodes.length : Int) → ∀ p e, p ≤ B.length → PasE s.nodes r B a (20 - d) (decM s.nodes d a) p e := by
 intro d
 induction d with
 | zero =>
   intro _ a ha ha' p e hp
   obtain ⟨m, rfl⟩ : ∃ m : Nat, a = (m : Int) := ⟨a.toNat, by omega⟩
   obtain ⟨nd, hnd⟩ : ∃ nd, s.nodes[m]? = some nd := ⟨_, List.getElem?_eq_getElem (show m < s.nodes.length by omega)⟩
   have hnd' : s.nodes[((m : Int)).toNat]? = some nd := by rw [Int.toNat_natCast]; exact hnd
   have hN := right_nodes hr nd (List.mem_of_getElem? hnd)
   cases hk : isComp nd.kind with
   | true =>
     have hkk : nd.kind = 9 ∨ nd.kind = 11 ∨ nd.kind = 12 ∨ nd.kind = 13 := by unfold isComp at hk; simp at hk; omega
     rw [decM_zero hnd' hk]
     have hE0 : (if e = 0 then (15 : Int) else e) ≠ 0 := by split <;> omega
     refine ⟨v0, p, if e = 0 then 15 else e, ?_, kpastc_any s.nodes r B m nd hnd hkk 20 (by decide) true rfl p p e _ (if e = 0 then 15 else e) (by rw [if_pos rfl]) (kcomp_no s.nodes r B hB nd hN hkk _ p hp _ hE0)⟩
     by_cases he : e = 0
     · subst he
       rw [if_pos rfl]
       exact got_of hp (fun h => absurd h (show ¬ ((15 : Int) = 0) by decide)) fun _ => rfl
     · rw [if_neg he]
       exact ⟨hp, fun _ => rfl, fun x h1 => absurd h1 he, fun w q' h1 => absurd h1 he⟩
   | false =>
     rw [decM_leaf hnd' hk]
     exact kleaf_told s.nodes r B hB m nd hnd hN hk _ p hp e
 | succ d ih =>
   intro hd a ha ha' p e hp
   obtain ⟨m, rfl⟩ : ∃ m : Nat, a = (m : Int) := ⟨a.toNat, by omega⟩
   obtain ⟨nd, hnd⟩ : ∃ nd, s.nodes[m]? = some nd := ⟨_, List.getElem?_eq_getElem (show m < s.nodes.length by omega)⟩
   have hnd' : s.nodes[((m : Int)).toNat]? = some nd := by rw [Int.toNat_natCast]; exact hnd
   have hmem := List.mem_of_getElem? hnd
   have hN := right_nodes hr nd hmem
   cases hk : isComp nd.kind with
   | false =>
     rw [decM_leaf hnd' hk]
     exact kleaf_told s.nodes r B hB m nd hnd hN hk _ p hp e
   | true =>
   rw [decM_succ hnd' hk]
   have hkk : nd.kind = 9 ∨ nd.kind = 11 ∨ nd.kind = 12 ∨ nd.kind = 13 := by unfold isComp at hk; simp at hk; omega
   have hkid := ordered_kids (right_ordered hr) nd hmem
   have his : (((20 - (d + 1) : Nat) : Int) == 20) = false := by simp; omega
   have hdep1 : 20 - (d + 1) + 1 = 20 - d := by omega
   obtain ⟨val, hval⟩ := pas_of (ih (by omega))
   rw [← hdep1] at hval
   have hfair := fair_dec s.nodes d
   have hpast := fun q e' => kpastc_any s.nodes r B m nd hnd hkk (20 - (d + 1)) (by omega) false his p q e e' e (by rw [if_neg (by decide)])
   unfold nodeM at hN
   simp only [Bool.and_eq_true, decide_eq_true_eq] at hN
   have hS := hN.2.2
   unfold rcomp
   by_cases h9 : nd.kind = 9
   · rw [if_pos h9] at hS ⊢
     unfold fieldsM at hS
     simp only [Bool.and_eq_true, decide_eq_true_eq] at hS
     have hkf : ∀ t ∈ nd.fields, 0 ≤ t.type ∧ t.type < (s.nodes.length : Int) := fun t ht => hkid t.type (by unfold kidsN; rw [if_pos h9]; exact List.mem_map_of_mem ht)
     have hG := got_map (fair_fields hfair nd.fields []) (fun xs => VT.mk nd.kind 0 0 [] xs []) (fldS_got hfair nd.fields (fun t ht => (hval t.type (hkf t ht).1 (hkf t ht).2).1) [] p e hp)
     have hT := kcomp9_told s.nodes r B hB nd h9 (by omega) (20 - (d + 1) + 1) val p hp e (fun _ t ht => (hval t.type (hkf t ht).1 (hkf t ht).2).2) (fun _ t ht p e hp => ((hval t.type (hkf t ht).1 (hkf t ht).2).1 p e hp).le) _ rfl
     exact ⟨_, _, _, hG, hpast _ _ hT⟩
   rw [if_neg h9]
   by_cases h13 : nd.kind = 13
   · rw [if_pos h13]
     have hbk : ∀ b ∈ nd.branches, 0 ≤ b ∧ b < (s.nodes.length : Int) := fun b hb => hkid b (by unfold kidsN; rw [if_neg h9, if_neg (by omega), if_pos h13]; exact hb)
     rw [h13, if_neg (by decide), if_neg (by decide), if_neg (by decide), if_pos rfl] at hS
     unfold unionM at hS
     simp only [Bool.and_eq_true, decide_eq_true_eq] at hS
     have hT := kcomp13_told s.nodes r B hB nd h13 (by omega) (20 - (d + 1) + 1) val p hp e (fun _ b hb => (hval b (hbk b hb).1 (hbk b hb).2).2) _ rfl _ rfl
     have hP := plcS_got fair_long nd.branches.length hp e
     have hin := plcS_in (f := rlong) (B := B) (many := nd.branches.length) (p := p) (e := e)
     generalize plcS rlong B nd.branches.length p e = P at hT hP hin
     by_cases h0 : P.2.2 = 0
     · rw [if_pos h0] at hT
       obtain ⟨n1, n2⟩ := hin h0
       have hlt : P.1.toNat < nd.branches.length := by omega
       have hba : nd.branches[P.1.toNat]? = some (branchAt nd P.1) := by rw [branchAt, List.getElem?_eq_getElem hlt]
       have hb := hbk _ (List.mem_of_getElem? hba)
       have hX := (hval _ hb.1 hb.2).1 P.2.1 0 hP.le
       have he : e = 0 := Decidable.not_not.1 fun h => h ((hP.no h).symm.trans h0)
       subst he
       have hPi := hP.is (fair_place fair_long _)
       have hXi := hX.is (hfair _)
       refine ⟨VT.mk nd.kind P.1 0 [] [(val (branchAt nd P.1) P.2.1 0).1] [], _, _, ?_, hpast _ _ hT⟩
       refine got_of hX.le (fun h1 => ?_) fun h1 => ?_
       · rw [rbind_ok (hPi.1 h0), rbind_ok (hXi.1 h1)]; rfl
       · rw [rbind_ok (hPi.1 h0), rbind_bad (hXi.2 h1)]
     · rw [if_neg h0] at hT
       refine ⟨v0, _, _, ?_, hpast _ _ hT⟩
       by_cases he : e = 0
       · subst he
         have hPi := hP.is (fair_place fair_long _)
         exact got_of hP.le (fun h1 => absurd h1 h0) fun h1 => by rw [rbind_bad (hPi.2 h0)]
       · exact ⟨hP.le, hP.no, fun x h1 => absurd h1 he, fun w q' h1 => absurd h1 he⟩
   · rw [if_neg h13]
     have hk2 : nd.kind = 11 ∨ nd.kind = 12 := by omega
     have hb := hkid nd.items (by unfold kidsN; rw [if_neg h9, if_pos hk2]; simp)
     have hv := hval _ hb.1 hb.2
     by_cases he : e = 0
     · subst he
       have hG := blkS_got (fair_item (nd.kind == 12) (hfair nd.items)) (itemS_ok (hfair nd.items) hv.1 (nd.kind == 12)) (cntX_ok B) 301 [] [] p hp (by simp)
       have hT := kblocks_told s.nodes r B hB nd (20 - (d + 1) + 1) (val nd.items) p hp 0 (fun _ => hv.2) (fun _ p e hp => (hv.1 p e hp).le) _ (fun _ => rfl) fun h => absurd rfl h
       exact ⟨_, _, _, got_map (fair_blks (fair_item _ (hfair _)) _ _ _) (fun q => VT.mk nd.kind 0 0 [] q.1 q.2) hG, hpast _ _ (kcomp11_told s.nodes r B nd hk2 _ p _ 0 _ hT)⟩
     · have hT := kblocks_told s.nodes r B hB nd (20 - (d + 1) + 1) (val nd.items) p hp e (fun h => absurd h he) (fun h => absurd h he) (p, e) (fun h => absurd h he) fun _ => rfl
       exact ⟨v0, p, e, ⟨hp, fun _ => rfl, fun x h1 => absurd h1 he, fun w q' h1 => absurd h1 he⟩, hpast _ _ (kcomp11_told s.nodes r B nd hk2 _ p p e e hT)⟩

theorem frz_v0 {h : Nat → Option Blkd} {K : Nat → Bool} : Frz K h (.agg [.c (.v (.int .i64 0)), .c (.v (.int .i64 0)), .c (.v (.int .u64 0)), .c (.v (.slice none 0 0)), .c (.v (.slice none 0 0)), .c (.v (.slice none 0 0))]) v0.av := by
 rw [VT.av_eq, v0, vcells_mk]
 exact Frz.aggL (.cons (.c _) (.cons (.c _) (.cons (.c _) (.cons (.nil 1) (.cons (.nil 6) (.cons (.nil 1) .nil))))))
theorem takeM_no {s : ST} {a : Int} {B : List UInt8} {p : Int} (h : a < 0 ∨ (s.nodes.length : Int) ≤ a ∨ p < 0 ∨ (B.length : Int) < p ∨ rightM s = false) : takeM s a B p = (v0, p, 2) := by unfold takeM; rw [if_pos h]
theorem takeM_go {s : ST} {a : Int} {B : List UInt8} {p : Int} (h : ¬ (a < 0 ∨ (s.nodes.length : Int) ≤ a ∨ p < 0 ∨ (B.length : Int) < p ∨ rightM s = false)) : takeM s a B p = match decM s.nodes 20 a B p.toNat with
  | .error e => (v0, p, e)
  | .ok (v, q) => (v, (q : Int), 0) := by unfold takeM; rw [if_neg h]; rfl
theorem drop_vcellsC (v : VT) : (v.cells.map AV.c).drop 6 = [] := List.drop_eq_nil_of_le (by rw [List.length_map, len_vcells]; exact Nat.le_refl _)
theorem dtake_told (s : ST) (hs : s.sm 1000000) (a : Int) (B : List UInt8) (hB : B.length ≤ 1000000) (p : Int) :
  Told Tryz.prog 28 [s.av, .c (.v (.int .i64 a)), .c (.sl 1 (bytePV B)), .c (.v (.int .i64 p))] (.tup [(takeM s a B p).1.av, .c (.v (.int .i64 (takeM s a B p).2.1)), .c (.v (.int .i64 (takeM s a B p).2.2))]) := by
 have hR := sRight_told s hs
 have hbl := bytePV_l B
 by_cases h1 : a < 0
 · rw [takeM_no (.inl h1)]
   have e1 : decide (a < 0) = true := by simpa using h1
   rw [ST.av_eq]
   refine VC.toldP ent_28 Tryz.func28 rfl Tryz.ntmps28 fun hb => ?_
   clear hb
   refine walkBF (And.intro @scells_mk (And.intro hbl e1)) ?_
   refine retX Tryz.results28 ?_
   exact ⟨frz_v0, .c _, .c _⟩
 have e1 : decide (a < 0) = false := by simpa using h1
 by_cases h2 : (s.nodes.length : Int) ≤ a
 · rw [takeM_no (.inr (.inl h2))]
   have e2 : decide (a ≥ (s.nodes.length : Int)) = true := by simpa using h2
   rw [ST.av_eq]
   refine VC.toldP ent_28 Tryz.func28 rfl Tryz.ntmps28 fun hb => ?_
   clear hb
   refine walkBF (And.intro @scells_mk (And.intro hbl (And.intro e1 e2))) ?_
   refine retX Tryz.results28 ?_
   exact ⟨frz_v0, .c _, .c _⟩
 have e2 : decide (a ≥ (s.nodes.length : Int)) = false := by simpa using h2
 by_cases h3 : p < 0
 · rw [takeM_no (.inr (.inr (.inl h3)))]
   have e3 : decide (p < 0) = true := by simpa using h3
   rw [ST.av_eq]
   refine VC.toldP ent_28 Tryz.func28 rfl Tryz.ntmps28 fun hb => ?_
   clear hb
   refine walkBF (And.intro @scells_mk (And.intro hbl (And.intro e1 (And.intro e2 e3)))) ?_
   refine retX Tryz.results28 ?_
   exact ⟨frz_v0, .c _, .c _⟩
 have e3 : decide (p < 0) = false := by simpa using h3
 by_cases h4 : (B.length : Int) < p
 · rw [takeM_no (.inr (.inr (.inr (.inl h4))))]
   have e4 : decide (p > (B.length : Int)) = true := by simpa using h4
   rw [ST.av_eq]
   refine VC.toldP ent_28 Tryz.func28 rfl Tryz.ntmps28 fun hb => ?_
   clear hb
   refine walkBF (And.intro @scells_mk (And.intro hbl (And.intro e1 (And.intro e2 (And.intro e3 e4))))) ?_
   refine retX Tryz.results28 ?_
   exact ⟨frz_v0, .c _, .c _⟩
 have e4 : decide (p > (B.length : Int)) = false := by simpa using h4
 cases hr : rightM s with
 | false =>
   rw [takeM_no (.inr (.inr (.inr (.inr hr))))]
   rw [hr] at hR
   rw [ST.av_eq] at hR ⊢
   refine VC.toldP ent_28 Tryz.func28 rfl Tryz.ntmps28 fun hb => ?_
   clear hb
   refine walkBF (And.intro @scells_mk (And.intro hbl (And.intro e1 (And.intro e2 (And.intro e3 e4))))) ?_
   refine walkCF (And.intro @pureL_c @scells_mk) (hR) ?_
   refine walkB ?_
   refine retX Tryz.results28 ?_
   exact ⟨frz_v0, .c _, .c _⟩
 | true =>
 rw [takeM_go (by rw [hr]; simp; omega)]
 rw [hr] at hR
 obtain ⟨m, rfl⟩ : ∃ m : Nat, p = (m : Int) := ⟨p.toNat, by omega⟩
 rw [Int.toNat_natCast]
 obtain ⟨v, q, e', hG, hT⟩ := dvalue_told s hr s.root B hB 20 (Nat.le_refl _) a (by omega) (by omega) m 0 (by omega)
 have hi := hG.is (fair_dec s.nodes 20 a)
 rw [show ((20 - 20 : Nat) : Int) = 0 from rfl, VT.av_eq] at hT
 rw [ST.av_eq] at hR ⊢
 rw [scells_mk] at hR ⊢
 unfold dB at hT
 by_cases h0 : e' = 0
 · subst h0
   rw [hi.1 rfl]
   simp only []
   rw [VT.av_eq]
   refine VC.toldP ent_28 Tryz.func28 rfl Tryz.ntmps28 fun hb => ?_
   clear hb
   refine walkBF (And.intro @scells_mk (And.intro hbl (And.intro e1 (And.intro e2 (And.intro e3 e4))))) ?_
   refine walkCF (And.intro @pureL_c @scells_mk) (hR) ?_
   refine walkBF (@scells_mk) ?_
   refine walkL [264] (hT) ?_
   have hvd := drop_vcellsC v
   refine walkBF (And.intro @len_vcells (And.intro @take_vcells (And.intro @take_vcellsC hvd))) ?_
   refine retX Tryz.results28 ?_
   refine ⟨⟨by simp [len_vcells], ?_⟩, .c _, .c _⟩
   (try rw [take_vcellsC])
   exact .cs _ _
 · rw [hi.2 h0]
   simp only []
   have e5 : (e' != 0) = true := by simpa using h0
   refine VC.toldP ent_28 Tryz.func28 rfl Tryz.ntmps28 fun hb => ?_
   clear hb
   refine walkBF (And.intro @scells_mk (And.intro hbl (And.intro e1 (And.intro e2 (And.intro e3 e4))))) ?_
   refine walkCF (And.intro @pureL_c @scells_mk) (hR) ?_
   refine walkBF (@scells_mk) ?_
   refine walkL [264] (hT) ?_
   refine walkBF (And.intro @len_vcells (And.intro @take_vcells (And.intro @take_vcellsC e5))) ?_
   refine retX Tryz.results28 ?_
   exact ⟨frz_v0, .c _, .c _⟩

def NoK (s : ST) (a : Int) (B : List UInt8) (p : Int) : Prop := a < 0 ∨ (s.nodes.length : Int) ≤ a ∨ p < 0 ∨ (B.length : Int) < p ∨ rightM s = false
theorem kopen_no (s : ST) (hs : s.sm 1000000) (a : Int) (B : List UInt8) (hB : B.length ≤ 1000000) (p : Int) (h : NoK s a B p) :
  Told Tryz.prog 60 [s.av, .c (.v (.int .i64 a)), .c (.sl 1 (bytePV B)), .c (.v (.int .i64 p))] (.c (.v (.pointer none))) := by
 have hR := sRight_told s hs
 have hbl := bytePV_l B
 rw [ST.av_eq] at hR ⊢
 rw [scells_mk] at hR ⊢
 by_cases h1 : a < 0
 · have e1 : decide (a < 0) = true := by simpa using h1
   refine VC.toldP ent_60 Tryz.func60 rfl Tryz.ntmps60 fun hb => ?_
   clear hb
   refine walkBF (And.intro hbl e1) ?_
   refine retX Tryz.results60 ?_
   exact .c _
 have e1 : decide (a < 0) = false := by simpa using h1
 by_cases h2 : (s.nodes.length : Int) ≤ a
 · have e2 : decide (a ≥ (s.nodes.length : Int)) = true := by simpa using h2
   refine VC.toldP ent_60 Tryz.func60 rfl Tryz.ntmps60 fun hb => ?_
   clear hb
   refine walkBF (And.intro hbl (And.intro e1 e2)) ?_
   refine retX Tryz.results60 ?_
   exact .c _
 have e2 : decide (a ≥ (s.nodes.length : Int)) = false := by simpa using h2
 by_cases h3 : p < 0
 · have e3 : decide (p < 0) = true := by simpa using h3
   refine VC.toldP ent_60 Tryz.func60 rfl Tryz.ntmps60 fun hb => ?_
   clear hb
   refine walkBF (And.intro hbl (And.intro e1 (And.intro e2 e3))) ?_
   refine retX Tryz.results60 ?_
   exact .c _
 have e3 : decide (p < 0) = false := by simpa using h3
 by_cases h4 : (B.length : Int) < p
 · have e4 : decide (p > (B.length : Int)) = true := by simpa using h4
   refine VC.toldP ent_60 Tryz.func60 rfl Tryz.ntmps60 fun hb => ?_
   clear hb
   refine walkBF (And.intro hbl (And.intro e1 (And.intro e2 (And.intro e3 e4)))) ?_
   refine retX Tryz.results60 ?_
   exact .c _
 have e4 : decide (p > (B.length : Int)) = false := by simpa using h4
 have hr : rightM s = false := by
  rcases h with h | h | h | h | h
  · exact absurd h h1
  · exact absurd h h2
  · exact absurd h h3
  · exact absurd h h4
  · exact h
 rw [hr] at hR
 refine VC.toldP ent_60 Tryz.func60 rfl Tryz.ntmps60 fun hb => ?_
 clear hb
 refine walkBF (And.intro hbl (And.intro e1 (And.intro e2 (And.intro e3 e4)))) ?_
 refine walkCF (@pureL_c) (hR) ?_
 refine walkB ?_
 refine retX Tryz.results60 ?_
 exact .c _
theorem kopen_told (s : ST) (hs : s.sm 1000000) (a : Int) (B : List UInt8) (hB : B.length ≤ 1000000) (p : Nat) (h : ¬ NoK s a B (p : Int)) :
  ToldM Tryz.prog 60 [s.av, .c (.v (.int .i64 a)), .c (.sl 1 (bytePV B)), .c (.v (.int .i64 (p : Int)))] [] [some (xB s.nodes s.root B p 0)] (.ref 1000000 1 0 0) := by
 have hR := sRight_told s hs
 have hbl := bytePV_l B
 have h1 : ¬ a < 0 := fun g => h (.inl g)
 have h2 : ¬ (s.nodes.length : Int) ≤ a := fun g => h (.inr (.inl g))
 have h4 : ¬ (B.length : Int) < (p : Int) := fun g => h (.inr (.inr (.inr (.inl g))))
 have hr : rightM s = true := by
  cases g : rightM s with
  | true => rfl
  | false => exact absurd (.inr (.inr (.inr (.inr g)))) h
 rw [hr] at hR
 have e1 : decide (a < 0) = false := by simpa using h1
 have e2 : decide (a ≥ (s.nodes.length : Int)) = false := by simpa using h2
 have e3 : decide ((p : Int) < 0) = false := by simp
 have e4 : decide ((p : Int) > (B.length : Int)) = false := by simpa using h4
 rw [ST.av_eq] at hR ⊢
 rw [scells_mk] at hR ⊢
 unfold xB
 refine VC.toldX ent_60 [248] Tryz.func60 rfl Tryz.ntmps60 fun hb hbL => ?_
 clear hb hbL
 refine walkBF (And.intro hbl (And.intro e1 (And.intro e2 (And.intro e3 e4)))) ?_
 refine walkCF (@pureL_c) (hR) ?_
 refine walkB ?_
 refine retX Tryz.results60 ?_
 exact .keepR rfl
theorem kPast_told (s : ST) (hs : s.sm 1000000) (a : Int) (B : List UInt8) (hB : B.length ≤ 1000000) (p : Int) :
  Told Tryz.prog 27 [s.av, .c (.v (.int .i64 a)), .c (.sl 1 (bytePV B)), .c (.v (.int .i64 p))] (.tup [.c (.v (.int .i64 (takeM s a B p).2.1)), .c (.v (.int .i64 (takeM s a B p).2.2))]) := by
 by_cases h : NoK s a B p
 · have hO := kopen_no s hs a B hB p h
   rw [takeM_no h]
   rw [ST.av_eq] at hO ⊢
   refine VC.toldP ent_27 Tryz.func27 rfl Tryz.ntmps27 fun hb => ?_
   clear hb
   refine walkBF (And.intro @len_scells (And.intro @take_scells @take_scellsC)) ?_
   refine walkCF (@pureL_c) (hO) ?_
   refine walkB ?_
   refine retX Tryz.results27 ?_
   exact ⟨.c _, .c _⟩
 obtain ⟨m, rfl⟩ : ∃ m : Nat, p = (m : Int) := ⟨p.toNat, by
  have : ¬ p < 0 := fun g => h (.inr (.inr (.inl g)))
  omega⟩
 have hO := kopen_told s hs a B hB m h
 have h1 : ¬ a < 0 := fun g => h (.inl g)
 have h2 : ¬ (s.nodes.length : Int) ≤ a := fun g => h (.inr (.inl g))
 have h4 : ¬ (B.length : Int) < (m : Int) := fun g => h (.inr (.inr (.inr (.inl g))))
 have hr : rightM s = true := by
  cases g : rightM s with
  | true => rfl
  | false => exact absurd (.inr (.inr (.inr (.inr g)))) h
 rw [takeM_go h, Int.toNat_natCast]
 obtain ⟨v, q, e', hG, hT⟩ := kpast_told s hr s.root B hB 20 (Nat.le_refl _) a (by omega) (by omega) m 0 (by omega)
 have hi := hG.is (fair_dec s.nodes 20 a)
 rw [show ((20 - 20 : Nat) : Int) = 0 from rfl] at hT
 rw [ST.av_eq] at hO ⊢
 unfold xB at hO hT
 by_cases h0 : e' = 0
 · subst h0
   rw [hi.1 rfl]
   simp only []
   have e5 : ((0 : Int) != 0) = false := by decide
   refine VC.toldP ent_27 Tryz.func27 rfl Tryz.ntmps27 fun hb => ?_
   clear hb
   refine walkBF (And.intro @len_scells (And.intro @take_scells @take_scellsC)) ?_
   refine walkL [] (hO) ?_
   refine walkB ?_
   refine walkL [56] (hT) ?_
   refine walkBF (e5) ?_
   refine retX Tryz.results27 ?_
   exact ⟨.c _, .c _⟩
 · rw [hi.2 h0]
   simp only []
   have e5 : (e' != 0) = true := by simpa using h0
   refine VC.toldP ent_27 Tryz.func27 rfl Tryz.ntmps27 fun hb => ?_
   clear hb
   refine walkBF (And.intro @len_scells (And.intro @take_scells @take_scellsC)) ?_
   refine walkL [] (hO) ?_
   refine walkB ?_
   refine walkL [56] (hT) ?_
   refine walkBF (e5) ?_
   refine retX Tryz.results27 ?_
   exact ⟨.c _, .c _⟩

noncomputable def ceq {α : Type} (a b : α) : Bool := @decide (a = b) (Classical.propDecidable _)
theorem ceq_iff {α : Type} (a b : α) : ceq a b = true ↔ a = b := by simp [ceq]
theorem ceq_false {α : Type} (a b : α) : ceq a b = false ↔ a ≠ b := by simp [ceq]
theorem ceq_self {α : Type} (a : α) : ceq a a = true := (ceq_iff a a).2 rfl
section

section
variable {P : Program} {N : Nat} {Q : Exit → ASt → Prop} {id : Nat} {o1 o2 : Oper} {t : Nat → AV} {h : Nat → Option Blkd} {n d1 d2 : Nat}
end
end

theorem ceq_field (a b : FT) : ceq a b = ((((a.name == b.name) && (a.aliases == b.aliases)) && (a.type == b.type)) && (a.has == b.has) && jeq a.dflt b.dflt) := by
 rw [Bool.eq_iff_iff]
 simp only [ceq_iff, Bool.and_eq_true, beq_iff_eq, jeq_iff]
 constructor
 · rintro rfl
   exact ⟨⟨⟨⟨rfl, rfl⟩, rfl⟩, rfl⟩, rfl⟩
 · rintro ⟨⟨⟨⟨h1, h2⟩, h3⟩, h4⟩, h5⟩
   cases a
   cases b
   simp_all
theorem ceq_node (a b : NT) : ceq a b = ((((((((((a.kind == b.kind) && (a.name == b.name)) && (a.aliases == b.aliases)) && ceq a.fields b.fields) && (a.symbols == b.symbols)) && (a.has == b.has)) && (a.dflt == b.dflt)) && (a.size == b.size)) && (a.items == b.items)) && (a.branches == b.branches)) := by
 rw [Bool.eq_iff_iff]
 simp only [ceq_iff, Bool.and_eq_true, beq_iff_eq]
 constructor
 · rintro rfl
   simp
 · rintro ⟨⟨⟨⟨⟨⟨⟨⟨⟨h1, h2⟩, h3⟩, h4⟩, h5⟩, h6⟩, h7⟩, h8⟩, h9⟩, h10⟩
   cases a
   cases b
   simp_all

theorem cellish_map (l : List PV) : ∀ x ∈ l.map AV.c, x.cellish = true := fun x hx => by
 obtain ⟨p, _, rfl⟩ := List.mem_map.1 hx
 rfl

def w11a : NT := ⟨11, [], [], [], [], false, [], 0, 1, []⟩
def w11b : NT := ⟨3, [], [], [], [], false, [], 0, 0, []⟩
def w11 : ST := ⟨[w11a, w11b], 0⟩
theorem w11_a : nodeM w11.nodes w11a = true := by
 unfold nodeM
 rw [if_neg (show ¬ w11a.kind = 9 by decide)]
 decide +kernel
theorem w11_b : nodeM w11.nodes w11b = true := by
 unfold nodeM
 rw [if_neg (show ¬ w11b.kind = 9 by decide)]
 decide +kernel
theorem w11_right : rightM w11 = true := by
 have h1 : orderedM w11 = true := by decide +kernel
 have h2 : diffM fullM (namesM w11.nodes) = true := by decide +kernel
 have h3 : rightL w11.nodes w11.nodes 0 (List.replicate w11.nodes.length 0) = true := by
  rw [show rightL w11.nodes w11.nodes = rightL w11.nodes [w11a, w11b] from rfl]
  rw [rightL, rightL, rightL, w11_a, w11_b]
  decide +kernel
 unfold rightM
 rw [h1, h2, h3]
 rfl
theorem w11_sm : w11.sm 1000000 := by
 refine ⟨by decide, fun n hn => ?_⟩
 simp only [w11, List.mem_cons, List.not_mem_nil, or_false] at hn
 rcases hn with rfl | rfl
 · exact ⟨by decide, by decide, ⟨by decide, by simp [w11a]⟩, ⟨by decide, by simp [w11a]⟩, by decide, by decide, by simp [w11a]⟩
 · exact ⟨by decide, by decide, ⟨by decide, by simp [w11b]⟩, ⟨by decide, by simp [w11b]⟩, by decide, by decide, by simp [w11b]⟩
section

section
variable {P : Program} {ops : Array Oper} {o : Oper} {ℓ : Nat} {t : Nat → AV} {h : Nat → Option Blkd}
end
end

def w19x : VT := .mk 3 3 0 [] [] []
def w19y : VT := .mk 3 27 0 [] [] []
def w19v : VT := .mk 11 0 0 [] [w19x, w19y] []
theorem w19_1 : decM w11.nodes 20 0 [4, 6, 54, 0] 0 = .ok (w19v, 4) := by kernel_rfl

mutual
def vbulk (d : Nat) : VT → Nat
 | .mk k n w s xs ks => if 80 < d ∨ 2500 < s.length ∨ 2500 < xs.length ∨ 2500 < ks.length then 2501 else match bkeys5 (1 + s.length) ks with | none => 2501 | some n => vitems d n xs
def vitems (d : Nat) : Nat → List VT → Nat
 | n, [] => n
 | n, x :: xs => if n ≤ 2500 then vitems d (n + vbulk (d + 1) x) xs else n
end
mutual
theorem vbulk_le (d : Nat) : ∀ (t : VT), vbulk d t ≤ 5001 + 2501 * (81 - d)
 | .mk k n w s xs ks => by
   rw [vbulk]
   split
   · omega
   · rename_i h
     split
     · omega
     · rename_i m hm
       exact vitems_le d xs m (by have := bkeys5_le ks _ _ (by omega) hm; omega)
theorem vitems_le (d : Nat) : ∀ (xs : List VT) (n : Nat), n ≤ 5001 + 2501 * (81 - d) → vitems d n xs ≤ 5001 + 2501 * (81 - d)
 | [], n, h => by rw [vitems]; exact h
 | x :: xs, n, h => by
   rw [vitems]
   split
   · have := vbulk_le (d + 1) x
     by_cases hd : 80 < d
     · have h2 : vbulk (d + 1) x = 2501 := by
        cases x
        rw [vbulk, if_pos (by omega)]
       exact vitems_le d xs _ (by omega)
     · exact vitems_le d xs _ (by omega)
   · exact h
end
theorem vitems_ge (d : Nat) : ∀ (xs : List VT) (n : Nat), n ≤ vitems d n xs
 | [], n => by rw [vitems]; exact Nat.le_refl _
 | x :: xs, n => by
   rw [vitems]
   split
   · exact Nat.le_trans (Nat.le_add_right _ _) (vitems_ge d xs _)
   · exact Nat.le_refl _
mutual
theorem vbulk_deep (d : Nat) : ∀ (t : VT), vbulk d t ≤ 2500 → vdeep t + d ≤ 81
 | .mk k n w s xs ks => fun h => by
   rw [vbulk] at h
   split at h
   · omega
   · rename_i hd
     split at h
     · omega
     · rw [vdeep]
       split
       · exact vitems_deep d xs _ 1 (by omega) h
       · omega
theorem vitems_deep (d : Nat) : ∀ (xs : List VT) (n m : Nat), m + d ≤ 81 → vitems d n xs ≤ 2500 → vdeeps m xs + d ≤ 81
 | [], n, m, hm, h => by rw [vdeeps]; exact hm
 | x :: xs, n, m, hm, h => by
   rw [vitems] at h
   split at h
   · have h1 := vitems_ge d xs (n + vbulk (d + 1) x)
     have h2 := vbulk_deep (d + 1) x (by omega)
     rw [vdeeps]
     exact vitems_deep d xs _ _ (by omega) h
   · omega
end
mutual
theorem vbulk_sm (d : Nat) : ∀ v : VT, v.inr → vbulk d v ≤ 2500 → v.sm 2500
 | .mk k n w s xs ks => fun hr h => by
   rw [vbulk] at h
   split at h
   · omega
   · rename_i h1
     split at h
     · omega
     · rename_i m hm
       have h2 := vitems_ge d xs m
       obtain ⟨_, h3⟩ := bkeys5_len ks _ m hm (by omega)
       exact ⟨hr.1, by omega, by omega, h3, by omega, vitems_sm d m xs hr.2 h⟩
theorem vitems_sm (d n : Nat) : ∀ xs : List VT, VT.inrL xs → vitems d n xs ≤ 2500 → VT.smL 2500 xs
 | [] => fun _ _ => trivial
 | x :: xs => fun hr h => by
   rw [vitems] at h
   split at h
   · have := vitems_ge d xs (n + vbulk (d + 1) x)
     exact ⟨vbulk_sm (d + 1) x hr.1 (by omega), vitems_sm d _ xs hr.2 h⟩
   · omega
end

def kw : List (List UInt8) → Nat
 | [] => 0
 | y :: ys => 1 + y.length + kw ys
mutual
def vw : VT → Nat
 | .mk k n b t xs ks => 1 + t.length + kw ks + vwL xs
def vwL : List VT → Nat
 | [] => 0
 | x :: xs => vw x + vwL xs
end
theorem vw_pos (v : VT) : 1 ≤ vw v := by cases v; rw [vw]; omega
def BL : List Enc → Nat → Prop
 | [], _ => True
 | f :: fs, N => ∃ w r, w + r ≤ N ∧ (∀ c, (f c).1.length ≤ w) ∧ BL fs r
theorem BL.le : ∀ {fs : List Enc} {N M : Nat}, BL fs N → N ≤ M → BL fs M
 | [], _, _, _, _ => trivial
 | f :: fs, N, M, ⟨w, r, h1, h2, h3⟩, h => ⟨w, r, by omega, h2, h3⟩
theorem BL.cut : ∀ {fs : List Enc} {N : Nat} (n : Nat), BL fs N → ∃ a b, a + b ≤ N ∧ BL (fs.take n) a ∧ BL (fs.drop n) b
 | fs, N, 0, h => ⟨0, N, by omega, by simp [BL], by simpa using h⟩
 | [], N, n + 1, h => ⟨0, 0, by omega, trivial, trivial⟩
 | f :: fs, N, n + 1, ⟨w, r, h1, h2, h3⟩ => by
   obtain ⟨a, b, h4, h5, h6⟩ := BL.cut n h3
   exact ⟨w + a, b, by omega, ⟨w, a, Nat.le_refl _, h2, h5⟩, h6⟩
theorem seqF_len : ∀ {fs : List Enc} {N : Nat}, BL fs N → ∀ c, (seqF fs c).1.length ≤ N
 | [], N, _, c => by simp [seqF]
 | f :: fs, N, ⟨w, r, h1, h2, h3⟩, c => by
   rw [seqF, List.length_append]
   have a := h2 c
   have b := seqF_len h3 (f c).2
   omega
theorem headB_len (n : Nat) (sized : Bool) (m : Nat) (hn : n ≤ 1000000000) (hm : m ≤ 1000000000) : (headB n sized m).length ≤ 20 := by
 have a := vput_len (-(n : Int)) (by omega) (by omega)
 have b := vput_len (m : Int) (by omega) (by omega)
 have c := vput_len (n : Int) (by omega) (by omega)
 unfold headB
 split
 · rw [List.length_append]; omega
 · omega
theorem blkF_len (cuts : List Int) : ∀ (k : Nat) (fs : List Enc) (N : Nat), BL fs N → N ≤ 1000000000 → fs.length ≤ 1000000000 → ∀ c, (blkF cuts k fs c).1.length ≤ N + 20 * fs.length + 10
 | 0, fs, N, _, _, _, c => by
   have := vput_len 0 (by decide) (by decide)
   rw [blkF]
   simp only []
   omega
 | k + 1, [], N, _, _, _, c => by
   have := vput_len 0 (by decide) (by decide)
   rw [blkF]
   simp only []
   omega
 | k + 1, f :: fs, N, h, hN, hl, c => by
   rw [blkF]
   simp only []
   have hp := cutM_pos cuts c (fs.length + 1) (by omega)
   obtain ⟨a, b, h1, h2, h3⟩ := h.cut (cutM cuts c (fs.length + 1)).1
   simp at hl
   have s1 := seqF_len h2 (cutM cuts c (fs.length + 1)).2.2
   have s2 := headB_len (cutM cuts c (fs.length + 1)).1 (cutM cuts c (fs.length + 1)).2.1 (seqF ((f :: fs).take (cutM cuts c (fs.length + 1)).1) (cutM cuts c (fs.length + 1)).2.2).1.length (by omega) (by omega)
   have s3 := blkF_len cuts k ((f :: fs).drop (cutM cuts c (fs.length + 1)).1) b h3 (by omega) (by simp; omega) (seqF ((f :: fs).take (cutM cuts c (fs.length + 1)).1) (cutM cuts c (fs.length + 1)).2.2).2
   rw [List.length_drop] at s3
   simp only [List.length_append, List.length_cons] at s3 ⊢
   omega
theorem leaf_len (nd : NT) (k n b : Int) (t : List UInt8) (ht : t.length ≤ 1000000) (h1 : -9223372036854775808 ≤ n) (h2 : n ≤ 9223372036854775807) : (leafM nd k n b t).length ≤ 10 + t.length := by
 have a := vput_len n h1 h2
 have c := vput_len (t.length : Int) (by omega) (by omega)
 have d := bitsB_len b 4
 have e := bitsB_len b 8
 unfold leafM
 split
 · simp
   omega
 · split
   · omega
   · split
     · omega
     · split
       · omega
       · split
         · rw [List.length_append]; omega
         · split
           · omega
           · simp
mutual
theorem enc_len (ns : List NT) (cuts : List Int) : ∀ (v : VT), v.sm 1000000 → v.lng → vw v ≤ 1000000 → ∀ (a : Int) (c : Nat), (encM ns cuts a v c).1.length + 30 ≤ 60 * vw v
 | .mk k n b t xs ks, hs, hl, hw, a, c => by
   obtain ⟨_, ht, _, hk, hx, hxs⟩ := hs
   obtain ⟨⟨hn1, hn2⟩, hls⟩ := hl
   rw [vw] at hw ⊢
   have hB := fun f => encs_len2 ns cuts xs hxs hls (by omega) f
   rw [encM]
   split
   · simp
     omega
   · rename_i nd hnd
     split
     · obtain ⟨N, hN, hb⟩ := hB (fun j => typeAt nd j)
       have := seqF_len hb c
       simp only []
       omega
     · split
       · obtain ⟨N, hN, hb⟩ := hB (fun _ => nd.items)
         have hel := encs_len ns cuts xs (fun _ => nd.items)
         have := blkF_len cuts xs.length _ N hb (by omega) (by omega) c
         simp only []
         omega
       · split
         · obtain ⟨N, hN, hb⟩ := hB (fun _ => nd.items)
           have hel := encs_len ns cuts xs (fun _ => nd.items)
           have hz : ∀ (ks : List (List UInt8)) (fs : List Enc) (N : Nat), (∀ y ∈ ks, y.length ≤ 1000000) → BL fs N → BL (List.zipWith keyF ks fs) (N + 10 * fs.length + kw ks) := by
            intro ks
            induction ks with
            | nil => intro fs N _ _; simp [BL]
            | cons y ys ih =>
              intro fs N hy h
              cases fs with
              | nil => simp [BL]
              | cons f fs =>
                obtain ⟨w, r, h1, h2, h3⟩ := h
                have hv := vput_len (y.length : Int) (by have := hy y (by simp); omega) (by have := hy y (by simp); omega)
                refine ⟨w + 10 + y.length, r + 10 * fs.length + kw ys, by simp [kw]; omega, fun c => ?_, ih fs r (fun z hz => hy z (by simp [hz])) h3⟩
                have := h2 c
                simp only [keyF, List.length_append]
                omega
           have hzz := hz ks _ N hk hb
           have hzl : (List.zipWith keyF ks (encsM ns cuts (fun _ => nd.items) xs)).length ≤ xs.length := by rw [List.length_zipWith]; omega
           have := blkF_len cuts xs.length _ _ hzz (by omega) (by omega) c
           simp only []
           omega
         · split
           · obtain ⟨N, hN, hb⟩ := hB (fun _ => branchAt nd n)
             have a1 := seqF_len hb c
             have a2 := vput_len n hn1 hn2
             simp only [List.length_append]
             omega
           · have := leaf_len nd nd.kind n b t ht hn1 hn2
             simp only []
             omega
theorem encs_len2 (ns : List NT) (cuts : List Int) : ∀ (xs : List VT), VT.smL 1000000 xs → VT.lngL xs → vwL xs ≤ 1000000 → ∀ (f : Nat → Int), ∃ N, N + 30 * xs.length ≤ 60 * vwL xs ∧ BL (encsM ns cuts f xs) N
 | [], _, _, _, f => ⟨0, by simp [vwL], by rw [encsM]; trivial⟩
 | x :: xs, hs, hl, hw, f => by
   rw [vwL] at hw ⊢
   obtain ⟨N, h1, h2⟩ := encs_len2 ns cuts xs hs.2 hl.2 (by omega) (fun i => f (i + 1))
   have hp := vw_pos x
   refine ⟨(60 * vw x - 30) + N, by simp; omega, ?_⟩
   rw [encsM]
   exact ⟨60 * vw x - 30, N, Nat.le_refl _, fun c => by have := enc_len ns cuts x hs.1 hl.1 (by omega) (f 0) c; omega, h2⟩
end
theorem bkeys_kw : ∀ (ks : List (List UInt8)) (n m : Nat), bkeys5 n ks = some m → m ≤ 2500 → n + kw ks = m
 | [], n, m, e, h => by rw [bkeys5] at e; obtain rfl := Option.some.inj e; rfl
 | y :: ys, n, m, e, h => by
   have hl := bkeys5_len (y :: ys) n m e h
   rw [bkeys5] at e
   split at e
   · split at e
     · simp at e
     · have := bkeys_kw ys _ m e h
       rw [kw]
       omega
   · obtain rfl := Option.some.inj e
     simp at hl
     omega
mutual
theorem vbulk_vw (d : Nat) : ∀ v : VT, vbulk d v ≤ 2500 → vw v ≤ vbulk d v
 | .mk k n w s xs ks => fun h => by
   rw [vbulk] at h ⊢
   split at h
   · omega
   · rename_i h1
     rw [if_neg h1]
     split at h
     · omega
     · rename_i m hm
       have h2 := vitems_ge d xs m
       have h3 := bkeys_kw ks _ m hm (by omega)
       have h4 := vitems_vw d xs m h
       rw [vw]
       omega
theorem vitems_vw (d : Nat) : ∀ (xs : List VT) (n : Nat), vitems d n xs ≤ 2500 → n + vwL xs ≤ vitems d n xs
 | [], n => fun h => by rw [vitems, vwL]; exact Nat.le_refl _
 | x :: xs, n => fun h => by
   rw [vitems] at h ⊢
   split at h
   · rename_i hn
     rw [if_pos hn, vwL]
     have h1 := vitems_ge d xs (n + vbulk (d + 1) x)
     have h2 := vbulk_vw (d + 1) x (by omega)
     have h3 := vitems_vw d xs _ h
     omega
   · omega
end

def BackL (item : Rd (List (List UInt8) × VT)) : List Enc → List (List (List UInt8) × VT) → Prop
 | [], ps => ps = []
 | f :: fs, ps => ∃ x xs, ps = x :: xs ∧ (∀ c, Back item (f c).1 x) ∧ BackL item fs xs
theorem BackL.len {item : Rd (List (List UInt8) × VT)} : ∀ {fs : List Enc} {ps : List (List (List UInt8) × VT)}, BackL item fs ps → ps.length = fs.length
 | [], ps, h => by rw [h]; rfl
 | f :: fs, ps, h => by
   obtain ⟨x, xs, rfl, _, h⟩ := h
   rw [List.length_cons, List.length_cons, BackL.len h]
theorem BackL.cut {item : Rd (List (List UInt8) × VT)} : ∀ (n : Nat) {fs : List Enc} {ps : List (List (List UInt8) × VT)}, BackL item fs ps → BackL item (fs.take n) (ps.take n) ∧ BackL item (fs.drop n) (ps.drop n)
 | 0, fs, ps, h => by
   rw [List.take_zero, List.take_zero]
   exact ⟨rfl, h⟩
 | n + 1, [], ps, h => by
   obtain rfl := h
   exact ⟨rfl, rfl⟩
 | n + 1, f :: fs, ps, h => by
   obtain ⟨x, xs, rfl, h1, h2⟩ := h
   obtain ⟨h3, h4⟩ := BackL.cut n h2
   exact ⟨⟨x, xs.take n, rfl, h1, h3⟩, h4⟩
section
open Go.RowKit Go.ChangeShapes Go.WideShapes Go.ChangeAt
inductive TyPV (P : Program) : TypeId → List PV → Prop
 | bool {t : TypeId} {b : Bool} (ht : P.underlying t = some .bool) : TyPV P t [.v (.bool b)]
 | int {t : TypeId} {k : IntKind} {n : Int} (ht : P.underlying t = some (.int k)) (hw : (Lit.int k n).wf = true) : TyPV P t [.v (.int k n)]
 | str {t : TypeId} {s : ByteArray} (ht : P.underlying t = some .string) (hs : s.size ≤ maxLen) : TyPV P t [.v (.string s)]
 | sl {t e : TypeId} {es : List (List PV)} (ht : P.underlying t = some (.slice e)) (hx : ∀ q ∈ es, TyPV P e q) : TyPV P t [.sl (P.cellsOf e) es]
 | struct {t : TypeId} {fs : Array Field} {ps : List PV} (ht : P.underlying t = some (.struct fs)) (hl : ps.length = P.cellsOf t)
   (hx : ∀ (i : Nat) (f : Field), fs[i]? = some f → TyPV P f.type ((ps.drop f.offset).take (P.cellsOf f.type))) : TyPV P t ps
def tiles (P : Program) : List Field → Nat → Nat → Bool
 | [], o, n => o == n
 | f :: fs, o, n => f.offset == o && tiles P fs (o + P.cellsOf f.type) n
def plainB (P : Program) (l : List TypeId) : Bool := l.all fun t => match P.underlying t with
 | some .bool => P.cellsOf t == 1 | some (.int _) => P.cellsOf t == 1 | some .string => P.cellsOf t == 1
 | some (.slice e) => l.contains e && decide (0 < P.cellsOf e) && (P.cellsOf t == 1)
 | some (.struct fs) => tiles P fs.toList 0 (P.cellsOf t) && fs.toList.all fun f => l.contains f.type
 | _ => false
theorem list_of {α : Type} {p : Nat → α → Prop} : ∀ (n : Nat), (∀ i, i < n → ∃ y, p i y) → ∃ l : List α, l.length = n ∧ ∀ (i : Nat) (y : α), l[i]? = some y → p i y
 | 0, _ => ⟨[], rfl, fun i y h => by simp at h⟩
 | n + 1, h => by
   obtain ⟨l, h1, h2⟩ := list_of n fun i hi => h i (by omega)
   obtain ⟨y, hy⟩ := h n (by omega)
   refine ⟨l ++ [y], by simp [h1], fun i z hz => ?_⟩
   by_cases hi : i < l.length
   · rw [List.getElem?_append_left hi] at hz
     exact h2 i z hz
   · rw [List.getElem?_append_right (by omega)] at hz
     cases hj : i - l.length with
     | zero =>
       rw [hj] at hz
       simp at hz
       subst hz
       rw [show i = n by omega]
       exact hy
     | succ j => rw [hj] at hz; simp at hz
section
variable {P : Program} {w : World}
theorem PRepL.cons_app {ro : Nat → Prop} {p q : List PV} {v u : List Value} (h : PRepL w ro p v) (h' : PRepL w ro q u) : PRepL w ro (p ++ q) (v ++ u) := by
 refine ⟨by simp [h.1, h'.1], fun j x y h1 h2 => ?_⟩
 by_cases hj : j < p.length
 · rw [List.getElem?_append_left hj] at h1
   rw [List.getElem?_append_left (by rw [h.1]; exact hj)] at h2
   exact h.2 j x y h1 h2
 · rw [List.getElem?_append_right (by omega)] at h1
   rw [List.getElem?_append_right (by rw [h.1]; omega), h.1] at h2
   exact h'.2 _ x y h1 h2
theorem tile_rep {ro : Nat → Prop} {cs : List Value} {n : Nat} (hn : cs.length = n) : ∀ (fs : List Field) (o : Nat), o ≤ n → tiles P fs o n = true →
  (∀ f ∈ fs, ∃ q, PRepL w ro q ((cs.drop f.offset).take (P.cellsOf f.type)) ∧ q.length = P.cellsOf f.type ∧ TyPV P f.type q) →
  ∃ ps, PRepL w ro ps (cs.drop o) ∧ ps.length = n - o ∧ ∀ (i : Nat) (f : Field), fs[i]? = some f → o ≤ f.offset ∧ TyPV P f.type ((ps.drop (f.offset - o)).take (P.cellsOf f.type)) := by
 intro fs
 induction fs with
 | nil =>
   intro o ho ht _
   simp [tiles] at ht
   subst ht
   exact ⟨[], ⟨by simp [← hn], by simp⟩, by simp, by simp⟩
 | cons f fs ih =>
   intro o ho ht hf
   simp only [tiles, Bool.and_eq_true, beq_iff_eq] at ht
   obtain ⟨h1, h2⟩ := ht
   obtain ⟨q, hq1, hq2, hq3⟩ := hf f (by simp)
   have hle : o + P.cellsOf f.type ≤ n := by
    have := hq1.1
    rw [hq2, List.length_take, List.length_drop, h1, hn] at this
    omega
   obtain ⟨ps, hp1, hp2, hp3⟩ := ih _ hle h2 fun g hg => hf g (by simp [hg])
   have hsp : cs.drop o = (cs.drop o).take (P.cellsOf f.type) ++ cs.drop (o + P.cellsOf f.type) := by
    rw [← List.drop_drop, List.take_append_drop]
   refine ⟨q ++ ps, ?_, by simp [hq2, hp2]; omega, fun i g hg => ?_⟩
   · rw [hsp]
     rw [h1] at hq1
     exact hq1.cons_app hp1
   · cases i with
     | zero =>
       simp at hg
       subst hg
       refine ⟨by omega, ?_⟩
       rw [h1, Nat.sub_self, List.drop_zero, ← hq2, List.take_left]
       exact hq3
     | succ i =>
       simp at hg
       obtain ⟨h3, h4⟩ := hp3 i g hg
       refine ⟨by omega, ?_⟩
       rw [show g.offset - o = q.length + (g.offset - (o + P.cellsOf f.type)) by omega, List.drop_append, List.drop_of_length_le (by omega), List.nil_append, Nat.add_sub_cancel_left]
       exact h4
variable {H : Type} {enc : TypeId × Value → H} {sp : Nat → Bool} {held : Bool}
theorem lit_prep {W : World} {ro : Nat → Prop} {v : Value} (hv : v.oneCell' = true) : PRepL W ro [.v v] [v] := ⟨rfl, fun j p u h1 h2 => by
 cases j with
 | zero => simp at h1 h2; subst h1 h2; exact .v hv
 | succ j => simp at h1⟩
theorem open_pv {l : List TypeId} (hl : plainB P l = true) : ∀ (fuel : Nat) (t : TypeId) (cs : List Value) (x : DataW H × List MemPlace), t ∈ l → DataW.trod enc P w 0 sp held fuel t cs = some x →
  ∃ ps, PRepL w (fun b => b < w.heap.size) ps cs ∧ ps.length = P.cellsOf t ∧ TyPV P t ps := by
 intro fuel
 induction fuel using Nat.strongRecOn with
 | ind fuel ih =>
 intro t cs x ht h
 have hk := List.all_eq_true.1 hl t ht
 split at hk
 · rename_i hu
   obtain ⟨b, rfl, _⟩ := DataW.trod_bool hu h
   exact ⟨_, lit_prep rfl, (by simpa using hk : P.cellsOf t = 1).symm, .bool hu⟩
 · rename_i k hu
   obtain ⟨n, rfl, _, hw⟩ := DataW.trod_int hu h
   exact ⟨_, lit_prep rfl, (by simpa using hk : P.cellsOf t = 1).symm, .int hu hw⟩
 · rename_i hu
   obtain ⟨s, rfl, _, hs⟩ := DataW.trod_string hu h
   exact ⟨_, lit_prep rfl, (by simpa using hk : P.cellsOf t = 1).symm, .str hu hs⟩
 · rename_i e hu
   simp only [Bool.and_eq_true, List.contains_iff_mem, decide_eq_true_eq, beq_iff_eq] at hk
   obtain ⟨⟨he, hz⟩, hone⟩ := hk
   rcases DataW.trod_slice hu h with ⟨rfl, _⟩ | ⟨a, len, cap, elems, rest, n, rfl, rfl, _, hb, h1, h2, h3, h4, _, _⟩
   · exact ⟨[.sl (P.cellsOf e) []], ⟨rfl, fun j p u g1 g2 => by
      cases j with
      | zero => simp at g1 g2; subst g1 g2; exact PRep.nil _ _ _
      | succ j => simp at g1⟩, hone.symm, .sl hu (by simp)⟩
   · have hex : ∀ i, i < len → ∃ y : List Value × List PV, w.cells? 0 (a.add (i * P.cellsOf e)) (P.cellsOf e) = some y.1 ∧ PRepL w (fun b => b < w.heap.size) y.2 y.1 ∧ y.2.length = P.cellsOf e ∧ TyPV P e y.2 := by
      intro i hi
      have h5 := h4 i hi
      rw [List.getElem?_eq_getElem (show i < elems.length by omega), Option.bind_eq_some_iff] at h5
      obtain ⟨vs, h6, h7⟩ := h5
      obtain ⟨q, h8, h9, h10⟩ := ih n (by omega) e vs _ he h7
      exact ⟨(vs, q), h6, h8, h9, h10⟩
     obtain ⟨L, hL, hLx⟩ := list_of len hex
     have hcell : ∀ (i : Nat) (y : List Value × List PV), L[i]? = some y → y.1.length = P.cellsOf e ∧ ∀ j, j < P.cellsOf e → w.cell? ((a.add (i * P.cellsOf e)).add j) = y.1[j]? := fun i y hy => (World.cells?_some (hLx i y hy).1).2
     have hlen : len = (L.map (·.2)).length := by simp [hL]
     refine ⟨[.sl (P.cellsOf e) (L.map (·.2))], ⟨rfl, fun j p u g1 g2 => ?_⟩, hone.symm, .sl hu fun q hq => ?_⟩
     · cases j with
       | succ j => simp at g1
       | zero =>
       simp at g1 g2
       subst g1 g2
       rw [hlen]
       refine .sl (vss := L.map (·.1)) (by omega) (by unfold maxLen at h2; omega) (fun hn => by simp at hn) (fun hne => ?_) (by simp) (fun i q hq => ?_) (fun i vs hvs => ?_) (fun i j q vs p u hq hvs hp hv => ?_)
       · have hpos : 0 < L.length := List.length_pos_iff.2 (by intro e; apply hne; simp [e])
         obtain ⟨y0, hy0⟩ : ∃ y, L[0]? = some y := ⟨L[0], List.getElem?_eq_getElem hpos⟩
         obtain ⟨c1, c2⟩ := hcell 0 y0 hy0
         have c3 := c2 0 hz
         rw [List.getElem?_eq_getElem (show 0 < y0.1.length by omega)] at c3
         simp only [Nat.zero_mul] at c3
         have hspot := World.cell?_spot c3
         have hlt : a.block < w.heap.size := by
          unfold World.cell? at c3
          have : (a.add 0).add 0 = a := by simp [Addr.add]
          rw [this] at c3
          split at c3
          · rename_i hh
            exact (Array.getElem?_eq_some_iff.1 hh).1
          · simp at c3
         have ha : a = ⟨a.block, a.off, none⟩ := by
          cases a
          simp [Addr.add] at hspot
          simp [hspot]
         refine ⟨a.block, a.off, by rw [← ha], hlt, fun i vs hvs j hj => ?_⟩
         rw [List.getElem?_map] at hvs
         cases hq : L[i]? with
         | none => rw [hq] at hvs; simp at hvs
         | some y =>
           rw [hq] at hvs
           obtain rfl := Option.some.inj hvs
           obtain ⟨d1, d2⟩ := hcell i y hq
           have hj' : j < y.1.length := hj
           rw [← d2 j (by omega), ha, addr_add, addr_add]
       · rw [List.getElem?_map] at hq
         cases hy : L[i]? with
         | none => rw [hy] at hq; simp at hq
         | some y =>
           rw [hy] at hq
           obtain rfl := Option.some.inj hq
           exact (hLx i y hy).2.2.1
       · rw [List.getElem?_map] at hvs
         cases hy : L[i]? with
         | none => rw [hy] at hvs; simp at hvs
         | some y =>
           rw [hy] at hvs
           obtain rfl := Option.some.inj hvs
           exact (hcell i y hy).1
       · rw [List.getElem?_map] at hq hvs
         cases hy : L[i]? with
         | none => rw [hy] at hq; simp at hq
         | some y =>
           rw [hy] at hq hvs
           obtain rfl := Option.some.inj hq
           obtain rfl := Option.some.inj hvs
           exact (hLx i y hy).2.1.2 j p u hp hv
     · obtain ⟨y, hy, rfl⟩ := List.mem_map.1 hq
       obtain ⟨i, hi⟩ := List.mem_iff_getElem?.1 hy
       exact (hLx i y hi).2.2.2
 · rename_i fs hu
   simp only [Bool.and_eq_true] at hk
   obtain ⟨htl, hin⟩ := hk
   obtain ⟨xs, n, rfl, _, h1, h2, h3⟩ := DataW.trod_struct hu h
   obtain ⟨ps, hp1, hp2, hp3⟩ := tile_rep (P := P) (w := w) (ro := fun b => b < w.heap.size) (cs := cs) h1 fs.toList 0 (Nat.zero_le _) htl fun f hf => by
    obtain ⟨i, hi⟩ := List.mem_iff_getElem?.1 hf
    have hi' : fs[i]? = some f := by simpa using hi
    have hlt := (Array.getElem?_eq_some_iff.1 hi').1
    have h4 := h3 i f hi'
    rw [List.getElem?_eq_getElem (show i < xs.length by omega)] at h4
    have hm : f.type ∈ l := by simpa using List.all_eq_true.1 hin f hf
    obtain ⟨q, h5, h6, h7⟩ := ih n (by omega) f.type _ _ hm h4
    exact ⟨q, h5, h6, h7⟩
   refine ⟨ps, by simpa using hp1, by rw [hp2]; simp, .struct hu (by rw [hp2]; simp) fun i f hf => ?_⟩
   simpa using (hp3 i f (by simpa using hf)).2
 · simp at hk
def TyAV (P : Program) (t : TypeId) (x : AV) : Prop := ∃ ps, TyPV P t ps ∧ (((∃ fs, P.underlying t = some (.struct fs)) ∧ x = .agg (ps.map .c)) ∨ ((∀ fs, P.underlying t ≠ some (.struct fs)) ∧ ∃ q, ps = [q] ∧ x = .c q))
theorem prepL_rep {W : World} {ro : Nat → Prop} {φ : Nat → Value} {h : Nat → Option Blkd} {ps : List PV} {cs : List Value} (hp : PRepL W ro ps cs) : Rep W ro φ h (.agg (ps.map .c)) (.agg cs.toArray) := by
 refine .agg (by simp [hp.1]) fun j x v h1 h2 => ?_
 rw [List.getElem?_map] at h1
 cases hq : ps[j]? with
 | none => rw [hq] at h1; simp at h1
 | some p =>
   rw [hq] at h1
   obtain rfl := Option.some.inj h1
   exact .c (hp.2 j p v hq h2)
theorem prepL_one {W : World} {ro : Nat → Prop} {φ : Nat → Value} {h : Nat → Option Blkd} {ps : List PV} {v : Value} (hp : PRepL W ro ps [v]) : ∃ q, ps = [q] ∧ Rep W ro φ h (.c q) v := by
 have := hp.1
 match ps, this with
 | [q], _ => exact ⟨q, rfl, .c (hp.2 0 q v rfl rfl)⟩
theorem open_arg {l : List TypeId} (hl : plainB P l = true) {t : TypeId} (ht : t ∈ l) {r : Reach} {base : Nat} {v : Value} {d : DataW H} {p : List MemPlace} (hval : Value.okWide P w r base t v) (h : DataW.Trod enc P w 0 sp held t v d p) :
  ∃ x, TyAV P t x ∧ Rep w (fun b => b < w.heap.size) φ0 h0 x v := by
 obtain ⟨fuel, hf⟩ := h
 obtain ⟨ps, h1, _, h3⟩ := open_pv hl fuel t _ _ ht hf
 have hk := List.all_eq_true.1 hl t ht
 have key : (∀ fs, P.underlying t ≠ some (.struct fs)) → v.cells.toList = [v] → ∃ x, TyAV P t x ∧ Rep w (fun b => b < w.heap.size) φ0 h0 x v := by
  intro hn hc
  rw [hc] at h1
  obtain ⟨q, rfl, hr⟩ := prepL_one (φ := φ0) (h := h0) h1
  exact ⟨_, ⟨_, h3, .inr ⟨hn, q, rfl, rfl⟩⟩, hr⟩
 split at hk
 · rename_i hu
   obtain ⟨b, rfl⟩ := okWide_bool hu hval
   exact key (by simp [hu]) rfl
 · rename_i k hu
   obtain ⟨n, rfl⟩ := okWide_int hu hval
   exact key (by simp [hu]) rfl
 · rename_i hu
   obtain ⟨s, rfl⟩ := okWide_string hu hval
   exact key (by simp [hu]) rfl
 · rename_i e hu
   obtain ⟨a, len, cap, rfl⟩ := okWide_slice hu hval
   exact key (by simp [hu]) rfl
 · rename_i fs hu
   obtain ⟨cs, rfl, _⟩ := okWide_struct hu hval
   exact ⟨_, ⟨_, h3, .inl ⟨⟨fs, hu⟩, rfl⟩⟩, by simpa [Value.cells] using prepL_rep h1⟩
 · simp at hk
theorem reps_nil {W : World} {ro : Nat → Prop} {φ : Nat → Value} {h : Nat → Option Blkd} : ∀ (j : Nat) (x : AV) (v : Value), ([] : List AV)[j]? = some x → ([] : List Value)[j]? = some v → Rep W ro φ h x v := fun j x v h1 => by simp at h1
theorem reps_cons {W : World} {ro : Nat → Prop} {φ : Nat → Value} {h : Nat → Option Blkd} {y : AV} {u : Value} {l : List AV} {vs : List Value} (hy : Rep W ro φ h y u) (hs : ∀ (j : Nat) (x : AV) (v : Value), l[j]? = some x → vs[j]? = some v → Rep W ro φ h x v) :
  ∀ (j : Nat) (x : AV) (v : Value), (y :: l)[j]? = some x → (u :: vs)[j]? = some v → Rep W ro φ h x v := fun j x v h1 h2 => by
 cases j with
 | zero => simp at h1 h2; subst h1 h2; exact hy
 | succ j => exact hs j x v (by simpa using h1) (by simpa using h2)
end
end
section

section
variable {P : Program}
theorem ty_int {t : TypeId} {k : IntKind} {ps : List PV} (h : TyPV P t ps) (hu : P.underlying t = some (.int k)) : ∃ n, ps = [.v (.int k n)] ∧ (Lit.int k n).wf = true := by
 cases h with
 | int ht hw => obtain rfl := TypeDesc.int.inj (Option.some.inj (ht.symm.trans hu)); exact ⟨_, rfl, hw⟩
 | bool ht => simp [ht] at hu
 | str ht hs => simp [ht] at hu
 | sl ht hx => simp [ht] at hu
 | struct ht hl hx => simp [ht] at hu
theorem ty_bool {t : TypeId} {ps : List PV} (h : TyPV P t ps) (hu : P.underlying t = some .bool) : ∃ b, ps = [.v (.bool b)] := by
 cases h with
 | bool ht => exact ⟨_, rfl⟩
 | int ht hw => simp [ht] at hu
 | str ht hs => simp [ht] at hu
 | sl ht hx => simp [ht] at hu
 | struct ht hl hx => simp [ht] at hu
theorem ty_str {t : TypeId} {ps : List PV} (h : TyPV P t ps) (hu : P.underlying t = some .string) : ∃ s : List UInt8, ps = [.v (.string (str s))] ∧ s.length ≤ maxLen := by
 cases h with
 | @str _ s ht hs => exact ⟨s.data.toList, by rw [str_of], by rw [← str_size, str_of]; exact hs⟩
 | bool ht => simp [ht] at hu
 | int ht hw => simp [ht] at hu
 | sl ht hx => simp [ht] at hu
 | struct ht hl hx => simp [ht] at hu
theorem ty_sl {t e : TypeId} {ps : List PV} (h : TyPV P t ps) (hu : P.underlying t = some (.slice e)) : ∃ es, ps = [.sl (P.cellsOf e) es] ∧ ∀ q ∈ es, TyPV P e q := by
 cases h with
 | sl ht hx => obtain rfl := TypeDesc.slice.inj (Option.some.inj (ht.symm.trans hu)); exact ⟨_, rfl, hx⟩
 | bool ht => simp [ht] at hu
 | int ht hw => simp [ht] at hu
 | str ht hs => simp [ht] at hu
 | struct ht hl hx => simp [ht] at hu
theorem list_map {α β : Type} {f : α → β} : ∀ {l : List β}, (∀ y ∈ l, ∃ x, y = f x) → ∃ m : List α, l = m.map f
 | [], _ => ⟨[], rfl⟩
 | y :: l, h => by
   obtain ⟨x, rfl⟩ := h y (by simp)
   obtain ⟨m, rfl⟩ := list_map (l := l) fun z hz => h z (by simp [hz])
   exact ⟨x :: m, rfl⟩
theorem list_mapP {α β : Type} {f : α → β} {p : α → Prop} : ∀ {l : List β}, (∀ y ∈ l, ∃ x, p x ∧ y = f x) → ∃ m : List α, (∀ x ∈ m, p x) ∧ l = m.map f
 | [], _ => ⟨[], by simp, rfl⟩
 | y :: l, h => by
   obtain ⟨x, hx, rfl⟩ := h y (by simp)
   obtain ⟨m, hm, rfl⟩ := list_mapP (l := l) fun z hz => h z (by simp [hz])
   exact ⟨x :: m, fun z hz => by rcases List.mem_cons.1 hz with rfl | hz; exact hx; exact hm z hz, rfl⟩
theorem wf64 {n : Int} (h : (Lit.int .i64 n).wf = true) : -9223372036854775808 ≤ n ∧ n ≤ 9223372036854775807 := by
 simp [Lit.wf, IntKind.min, IntKind.max, IntKind.signed, IntKind.bits] at h
 omega
theorem split5 {α : Type} {l : List α} (h : l.length = 5) : ∃ a b c d e, l = [a, b, c, d, e] := by
 match l, h with
 | [a, b, c, d, e], _ => exact ⟨a, b, c, d, e, rfl⟩
end
theorem fld_of {P : Program} {t : TypeId} {T : TyA} {fs : Array Field} (hT : tyA P t = some T) (hu : P.underlying t = some (.struct fs)) {i o : Nat} {t' : TypeId} (h : T.flds[i]? = some (o, t')) : ∃ f, fs[i]? = some f ∧ f.offset = o ∧ f.type = t' := by
 obtain ⟨d, ii, h1, _, rfl⟩ := tyA_some hT
 obtain rfl := Option.some.inj (hu.symm.trans h1)
 simp only [descFlds, List.getElem?_map] at h
 cases hq : fs.toList[i]? with
 | none => rw [hq] at h; simp at h
 | some f =>
   rw [hq] at h
   simp at h
   exact ⟨f, by simpa using hq, h.1, h.2⟩
theorem cells_of {P : Program} {t : TypeId} {T : TyA} (hT : tyA P t = some T) : P.cellsOf t = T.size := by
 obtain ⟨d, ii, _, h2, rfl⟩ := tyA_some hT
 simp [Program.cellsOf, h2]
theorem ty_strs {ps : List PV} (h : TyPV Tryz.prog 29 ps) : ∃ ks : List (List UInt8), ps = [.sl 1 (ks.map sPV)] := by
 obtain ⟨es, rfl, hx⟩ := ty_sl h Tryz.underlying29
 rw [cells_of tyA_9]
 obtain ⟨ks, rfl⟩ := list_map (f := sPV) fun q hq => by
  obtain ⟨s, rfl, _⟩ := ty_str (hx q hq) Tryz.underlying9
  exact ⟨s, rfl⟩
 exact ⟨ks, rfl⟩
theorem ty_fields {P : Program} {t : TypeId} {T : TyA} {ps : List PV} (h : TyPV P t ps) (hT : tyA P t = some T) (hk : T.kind = 3) :
  ps.length = T.size ∧ ∀ (i o : Nat) (t' : TypeId), T.flds[i]? = some (o, t') → ∀ T', tyA P t' = some T' → TyPV P t' ((ps.drop o).take T'.size) := by
 obtain ⟨d, ii, h1, h2, h3⟩ := tyA_some hT
 obtain ⟨fs, rfl⟩ := kind_struct (d := d) (by rw [h3] at hk; exact hk)
 cases h with
 | struct ht hlen hx =>
   obtain rfl := TypeDesc.struct.inj (Option.some.inj (ht.symm.trans h1))
   refine ⟨by rw [← cells_of hT]; exact hlen, fun i o t' h T' hT' => ?_⟩
   obtain ⟨f, hf, rfl, rfl⟩ := fld_of hT h1 h
   rw [← cells_of hT']
   exact hx i f hf
 | bool ht => simp [ht] at h1
 | int ht hw => simp [ht] at h1
 | str ht hs => simp [ht] at h1
 | sl ht hx => simp [ht] at h1
theorem ty_json : ∀ {t : TypeId} {ps : List PV}, TyPV Tryz.prog t ps → (t = 36 → ∃ j : JT, j.inr ∧ ps = j.cells) ∧ (t = 34 → ∃ xs : List JT, JT.inrL xs ∧ ps = [.sl 5 (xs.map JT.cells)]) := by
 intro t ps h
 induction h with
 | bool ht => exact ⟨fun e => by subst e; simp [Tryz.underlying36] at ht, fun e => by subst e; simp [Tryz.underlying34] at ht⟩
 | int ht hw => exact ⟨fun e => by subst e; simp [Tryz.underlying36] at ht, fun e => by subst e; simp [Tryz.underlying34] at ht⟩
 | str ht hs => exact ⟨fun e => by subst e; simp [Tryz.underlying36] at ht, fun e => by subst e; simp [Tryz.underlying34] at ht⟩
 | @sl t e es ht hx ih =>
   refine ⟨fun e => by subst e; simp [Tryz.underlying36] at ht, fun e => ?_⟩
   subst e
   obtain rfl := TypeDesc.slice.inj (Option.some.inj (ht.symm.trans Tryz.underlying34))
   obtain ⟨xs, hxs, rfl⟩ := list_mapP (f := JT.cells) (p := JT.inr) fun q hq => (ih q hq).1 rfl
   exact ⟨xs, inrL_of hxs, by rw [cells_of tyA_36]⟩
 | @struct t fs ps ht hl hx ih =>
   refine ⟨fun e => ?_, fun e => by subst e; simp [Tryz.underlying34] at ht⟩
   subst e
   have hT := tyA_36
   obtain ⟨a0, a1, a2, a3, a4, rfl⟩ := split5 (hl.trans (cells_of hT))
   obtain ⟨_, hf⟩ := ty_fields (.struct ht hl hx) hT rfl
   obtain ⟨k, h0, _⟩ := ty_int (hf 0 _ _ rfl _ tyA_3) Tryz.underlying3
   obtain ⟨n, h1, hw⟩ := ty_int (hf 1 _ _ rfl _ tyA_2) Tryz.underlying2
   obtain ⟨s, h2, _⟩ := ty_str (hf 2 _ _ rfl _ tyA_9) Tryz.underlying9
   obtain ⟨ks, h4⟩ := ty_strs (hf 4 _ _ rfl _ tyA_29)
   obtain ⟨f, g1, g2, g3⟩ := fld_of hT ht (i := 3) rfl
   obtain ⟨xs, hxs, h3⟩ := (ih 3 f g1).2 g3
   rw [g2, g3, cells_of tyA_34] at h3
   simp at h0 h1 h2 h3 h4
   subst h0 h1 h2 h3 h4
   exact ⟨.mk k n s ks xs, ⟨wf64 hw, hxs⟩, (cells_mk _ _ _ _ _).symm⟩
end

theorem drop_cut {α : Type} (l : List α) (o k : Nat) : l.drop o = (l.drop o).take k ++ l.drop (o + k) := by rw [← List.drop_drop, List.take_append_drop]
theorem ty_ints {ps : List PV} (h : TyPV Tryz.prog 31 ps) : ∃ ns : List Int, ps = [.sl 1 (ns.map iPV)] := by
 obtain ⟨es, rfl, hx⟩ := ty_sl h Tryz.underlying31
 rw [cells_of tyA_3]
 obtain ⟨ns, rfl⟩ := list_map (f := iPV) fun q hq => by
  obtain ⟨n, rfl, _⟩ := ty_int (hx q hq) Tryz.underlying3
  exact ⟨n, rfl⟩
 exact ⟨ns, rfl⟩
theorem ty_field {ps : List PV} (h : TyPV Tryz.prog 38 ps) : ∃ f : FT, ps = f.cells := by
 obtain ⟨hl, hf⟩ := ty_fields h tyA_38 rfl
 obtain ⟨a, h0, _⟩ := ty_str (hf 0 _ _ rfl _ tyA_9) Tryz.underlying9
 obtain ⟨b, h1⟩ := ty_strs (hf 1 _ _ rfl _ tyA_29)
 obtain ⟨c, h2, _⟩ := ty_int (hf 2 _ _ rfl _ tyA_3) Tryz.underlying3
 obtain ⟨d, h3⟩ := ty_bool (hf 3 _ _ rfl _ tyA_4) Tryz.underlying4
 obtain ⟨e, _, h4⟩ := (ty_json (hf 4 _ _ rfl _ tyA_36)).1 rfl
 have e0 : ps = (ps.drop 0).take 1 ++ ps.drop 1 := drop_cut ps 0 1
 have e1 : ps.drop 1 = (ps.drop 1).take 1 ++ ps.drop 2 := drop_cut ps 1 1
 have e2 : ps.drop 2 = (ps.drop 2).take 1 ++ ps.drop 3 := drop_cut ps 2 1
 have e3 : ps.drop 3 = (ps.drop 3).take 1 ++ ps.drop 4 := drop_cut ps 3 1
 have e4 : ps.drop 4 = (ps.drop 4).take 5 := (List.take_of_length_le (by rw [List.length_drop, hl]; decide)).symm
 exact ⟨⟨a, b, c, d, e⟩, e0.trans (by rw [h0, e1, h1, e2, h2, e3, h3, e4, h4]; rfl)⟩
theorem ty_fieldsL {ps : List PV} (h : TyPV Tryz.prog 30 ps) : ∃ fs : List FT, ps = [.sl 9 (fs.map FT.cells)] := by
 obtain ⟨es, rfl, hx⟩ := ty_sl h Tryz.underlying30
 rw [cells_of tyA_38]
 obtain ⟨ns, rfl⟩ := list_map (f := FT.cells) fun q hq => ty_field (hx q hq)
 exact ⟨ns, rfl⟩
theorem ty_node {ps : List PV} (h : TyPV Tryz.prog 33 ps) : ∃ n : NT, ps = n.cells := by
 obtain ⟨hl, hf⟩ := ty_fields h tyA_33 rfl
 obtain ⟨a0, h0, _⟩ := ty_int (hf 0 _ _ rfl _ tyA_3) Tryz.underlying3
 obtain ⟨a1, h1, _⟩ := ty_str (hf 1 _ _ rfl _ tyA_9) Tryz.underlying9
 obtain ⟨a2, h2⟩ := ty_strs (hf 2 _ _ rfl _ tyA_29)
 obtain ⟨a3, h3⟩ := ty_fieldsL (hf 3 _ _ rfl _ tyA_30)
 obtain ⟨a4, h4⟩ := ty_strs (hf 4 _ _ rfl _ tyA_29)
 obtain ⟨a5, h5⟩ := ty_bool (hf 5 _ _ rfl _ tyA_4) Tryz.underlying4
 obtain ⟨a6, h6, _⟩ := ty_str (hf 6 _ _ rfl _ tyA_9) Tryz.underlying9
 obtain ⟨a7, h7, _⟩ := ty_int (hf 7 _ _ rfl _ tyA_3) Tryz.underlying3
 obtain ⟨a8, h8, _⟩ := ty_int (hf 8 _ _ rfl _ tyA_3) Tryz.underlying3
 obtain ⟨a9, h9⟩ := ty_ints (hf 9 _ _ rfl _ tyA_31)
 have e0 : ps = (ps.drop 0).take 1 ++ ps.drop 1 := drop_cut ps 0 1
 have e1 : ps.drop 1 = (ps.drop 1).take 1 ++ ps.drop 2 := drop_cut ps 1 1
 have e2 : ps.drop 2 = (ps.drop 2).take 1 ++ ps.drop 3 := drop_cut ps 2 1
 have e3 : ps.drop 3 = (ps.drop 3).take 1 ++ ps.drop 4 := drop_cut ps 3 1
 have e4 : ps.drop 4 = (ps.drop 4).take 1 ++ ps.drop 5 := drop_cut ps 4 1
 have e5 : ps.drop 5 = (ps.drop 5).take 1 ++ ps.drop 6 := drop_cut ps 5 1
 have e6 : ps.drop 6 = (ps.drop 6).take 1 ++ ps.drop 7 := drop_cut ps 6 1
 have e7 : ps.drop 7 = (ps.drop 7).take 1 ++ ps.drop 8 := drop_cut ps 7 1
 have e8 : ps.drop 8 = (ps.drop 8).take 1 ++ ps.drop 9 := drop_cut ps 8 1
 have e9 : ps.drop 9 = (ps.drop 9).take 1 := (List.take_of_length_le (by rw [List.length_drop, hl]; decide)).symm
 exact ⟨⟨a0, a1, a2, a3, a4, a5, a6, a7, a8, a9⟩, e0.trans (by rw [h0, e1, h1, e2, h2, e3, h3, e4, h4, e5, h5, e6, h6, e7, h7, e8, h8, e9, h9]; rfl)⟩
theorem arg_schema {x : AV} (h : TyAV Tryz.prog 24 x) : ∃ s : ST, x = s.av := by
 obtain ⟨ps, h1, h2⟩ := h
 obtain ⟨hl, hf⟩ := ty_fields h1 tyA_24 rfl
 obtain ⟨es, h3, hx⟩ := ty_sl (hf 0 _ _ rfl _ tyA_22) Tryz.underlying22
 rw [cells_of tyA_33] at h3
 obtain ⟨ns, rfl⟩ := list_map (f := NT.cells) fun q hq => ty_node (hx q hq)
 obtain ⟨r, h4, _⟩ := ty_int (hf 1 _ _ rfl _ tyA_3) Tryz.underlying3
 have e0 : ps = (ps.drop 0).take 1 ++ ps.drop 1 := drop_cut ps 0 1
 have e1 : ps.drop 1 = (ps.drop 1).take 1 := (List.take_of_length_le (by rw [List.length_drop, hl]; decide)).symm
 have hp : ps = (ST.mk ns r).cells := e0.trans (by rw [h3, e1, h4]; rfl)
 subst hp
 rcases h2 with ⟨_, rfl⟩ | ⟨h2, _⟩
 · exact ⟨_, rfl⟩
 · exact absurd Tryz.underlying24 (h2 _)

theorem ty_bytes {ps : List PV} (h : TyPV Tryz.prog 40 ps) : ∃ l : List UInt8, ps = [.sl 1 (bytePV l)] := by
 obtain ⟨es, rfl, hx⟩ := ty_sl h Tryz.underlying40
 rw [cells_of tyA_5]
 obtain ⟨l, rfl⟩ := list_map (f := fun b : UInt8 => [PV.v (.int .u8 (b.toNat : Int))]) fun q hq => by
  obtain ⟨n, rfl, hw⟩ := ty_int (hx q hq) Tryz.underlying5
  simp [Lit.wf, IntKind.min, IntKind.max, IntKind.signed, IntKind.bits] at hw
  refine ⟨n.toNat.toUInt8, ?_⟩
  have : ((n.toNat.toUInt8).toNat : Int) = n := by simp; omega
  rw [this]
 exact ⟨l, rfl⟩
theorem arg_place {x : AV} (h : TyAV Tryz.prog 3 x) : ∃ n : Int, (-9223372036854775808 ≤ n ∧ n ≤ 9223372036854775807) ∧ x = .c (.v (.int .i64 n)) := by
 obtain ⟨ps, h1, h2⟩ := h
 obtain ⟨n, rfl, hn⟩ := ty_int h1 Tryz.underlying3
 rcases h2 with ⟨⟨fs, h2⟩, _⟩ | ⟨_, q, h2, rfl⟩
 · simp [Tryz.underlying3] at h2
 · simp at h2
   subst h2
   exact ⟨n, wf64 hn, rfl⟩
theorem fieldsB_deep : ∀ (l : List FT) (n m : Nat), fieldsB n l = some m → m ≤ 2500 → ∀ f ∈ l, tdeep f.dflt ≤ 61
 | [], n, m, e, h => by simp
 | f :: fs, n, m, e, h => by
   have hs := fieldsB_sm (f :: fs) n m e h
   rw [fieldsB] at e
   split at e
   · split at e
     · simp at e
     · have h3 := fieldsB_deep fs _ m e h
       have h4 := (fieldsB_sm fs _ m e h).1
       intro g hg
       rcases List.mem_cons.1 hg with rfl | hg
       · have := tbulk5_deep 0 g.dflt (by omega)
         omega
       · exact h3 g hg
   · obtain rfl := Option.some.inj e
     omega
theorem nodesB_deep : ∀ (l : List NT) (n : Nat), nodesB n l ≤ 2500 → ∀ x ∈ l, ∀ f ∈ x.fields, tdeep f.dflt ≤ 61
 | [], n, h => by simp
 | x :: xs, n, h => by
   rw [nodesB] at h
   split at h
   · split at h
     · omega
     · split at h
       · omega
       · rename_i m hm
         have h3 := nodesB_sm xs m h
         intro y hy
         rcases List.mem_cons.1 hy with rfl | hy
         · exact fieldsB_deep _ _ m hm (by omega)
         · exact nodesB_deep xs m h y hy
   · omega
theorem sbulk_deep {s : ST} (h : sbulk s ≤ 2500) : ∀ x ∈ s.nodes, ∀ f ∈ x.fields, tdeep f.dflt ≤ 1000 := by
 unfold sbulk at h
 split at h
 · omega
 · intro x hx f hf
   have := nodesB_deep _ _ h x hx f hf
   omega

def Slow (f : Enc) : Prop := ∀ c, (f c).2 ≤ c + (f c).1.length
theorem seqF_slow : ∀ {fs : List Enc}, (∀ f ∈ fs, Slow f) → Slow (seqF fs)
 | [], _, c => by rw [seqF]; exact Nat.le_refl _
 | f :: fs, h, c => by
   have h1 := h f (by simp) c
   have h2 := seqF_slow (fs := fs) (fun g hg => h g (by simp [hg])) (f c).2
   rw [seqF]
   simp only [List.length_append]
   omega
theorem vput_pos (n : Int) : 1 ≤ (vput n).length := by
 rw [vput, vint]
 split <;> simp
theorem headB_pos (n : Nat) (sized : Bool) (m : Nat) : 1 ≤ (headB n sized m).length := by
 have a := vput_pos (-(n : Int))
 have c := vput_pos (n : Int)
 unfold headB
 split
 · rw [List.length_append]; omega
 · omega
theorem cutM_slow (cuts : List Int) (c l : Nat) : (cutM cuts c l).2.2 ≤ c + 1 := by
 unfold cutM
 split
 · exact Nat.le_succ _
 · exact Nat.le_refl _
theorem blkF_slow (cuts : List Int) : ∀ (k : Nat) {fs : List Enc}, (∀ f ∈ fs, Slow f) → Slow (blkF cuts k fs)
 | 0, _, _, c => Nat.le_add_right _ _
 | k + 1, [], _, c => Nat.le_add_right _ _
 | k + 1, f :: fs, h, c => by
   rw [blkF]
   simp only [List.length_append]
   have h1 := cutM_slow cuts c (fs.length + 1)
   have h2 := seqF_slow (fs := (f :: fs).take (cutM cuts c (fs.length + 1)).1) (fun g hg => h g (List.mem_of_mem_take hg)) (cutM cuts c (fs.length + 1)).2.2
   have h3 := blkF_slow cuts k (fs := (f :: fs).drop (cutM cuts c (fs.length + 1)).1) (fun g hg => h g (List.mem_of_mem_drop hg)) (seqF ((f :: fs).take (cutM cuts c (fs.length + 1)).1) (cutM cuts c (fs.length + 1)).2.2).2
   have h4 := headB_pos (cutM cuts c (fs.length + 1)).1 (cutM cuts c (fs.length + 1)).2.1 (seqF ((f :: fs).take (cutM cuts c (fs.length + 1)).1) (cutM cuts c (fs.length + 1)).2.2).1.length
   omega
mutual
theorem encM_slow (ns : List NT) (cuts : List Int) : ∀ (v : VT) (a : Int), Slow (encM ns cuts a v)
 | .mk k n b t xs ks, a, c => by
   have h := encsM_slow ns cuts xs
   rw [encM]
   split
   · exact Nat.le_add_right _ _
   · split
     · exact seqF_slow (h _) c
     · split
       · exact blkF_slow cuts _ (h _) c
       · split
         · refine blkF_slow cuts _ (fun f hf => ?_) c
           obtain ⟨i, hi⟩ := List.getElem?_of_mem hf
           rw [List.getElem?_zipWith] at hi
           split at hi
           · obtain rfl := Option.some.inj hi
             rename_i y g hy hg
             intro c
             have := h _ g (List.mem_of_getElem? hg) c
             rw [keyF]
             simp only [List.length_append]
             omega
           · simp at hi
         · split
           · rename_i nd _ _ _ _ _
             have := seqF_slow (fs := encsM ns cuts (fun _ => branchAt nd n) xs) (h _) c
             simp only [List.length_append]
             omega
           · exact Nat.le_add_right _ _
theorem encsM_slow (ns : List NT) (cuts : List Int) : ∀ (xs : List VT) (f : Nat → Int), ∀ e ∈ encsM ns cuts f xs, Slow e
 | [], f => by rw [encsM]; simp
 | x :: xs, f => by
   rw [encsM]
   intro e he
   rcases List.mem_cons.1 he with rfl | he
   · exact encM_slow ns cuts x _
   · exact encsM_slow ns cuts xs _ e he
end

theorem ssm_le' {s : ST} (h : s.sm 2500) : s.sm 1000000 := by
 obtain ⟨h1, h2⟩ := h
 refine ⟨by omega, fun n hn => ?_⟩
 obtain ⟨a1, a2, ⟨a3, a4⟩, ⟨a5, a6⟩, a7, a8, a9⟩ := h2 n hn
 refine ⟨by omega, by omega, ⟨by omega, fun y hy => by have := a4 y hy; omega⟩, ⟨by omega, fun y hy => by have := a6 y hy; omega⟩, by omega, by omega, fun f hf => ?_⟩
 obtain ⟨b1, b2, b3, b4⟩ := a9 f hf
 exact ⟨by omega, by omega, fun y hy => by have := b3 y hy; omega, sm_le (by omega) _ b4⟩
theorem range_kinds {s : ST} (h : orderedM s = true) : ∀ n ∈ s.nodes, n.kind = 9 → ∀ f ∈ n.fields, 0 ≤ f.type ∧ f.type < (s.nodes.length : Int) := fun n hn h9 f hf =>
 ordered_kids h n hn f.type (by rw [kidsN, if_pos h9]; exact List.mem_map.2 ⟨f, hf, rfl⟩)
theorem range_at {s : ST} (h : orderedM s = true) : ∀ p, ∀ x ∈ fieldsAt s.nodes p, x.type.toNat < s.nodes.length := fun p x hx => by
 unfold fieldsAt at hx
 split at hx
 · rename_i n hn
   split at hx
   · rename_i h9
     have := range_kinds h n (List.mem_of_getElem? hn) h9 x hx
     omega
   · simp at hx
 · simp at hx

theorem textsL_step {l : List (List UInt8)} {i n : Nat} {y : List UInt8} (hy : l[i]? = some y) (hn : n ≤ 2500) : textsL n (l.drop i) = if 2500 < y.length then 2501 else textsL (n + y.length) (l.drop (i + 1)) := by
 obtain ⟨hlt, rfl⟩ := List.getElem?_eq_some_iff.1 hy
 rw [List.drop_eq_getElem_cons hlt, textsL, if_pos hn]
theorem textsL_end {l : List (List UInt8)} {i n : Nat} (h : ¬ (i < l.length ∧ n ≤ 2500)) : textsL n (l.drop i) = n := by
 by_cases hlt : i < l.length
 · rw [List.drop_eq_getElem_cons hlt, textsL, if_neg (by omega)]
 · rw [List.drop_of_length_le (by omega), textsL]
theorem texts_told (l : List (List UInt8)) : Told Tryz.prog 65 [.c (.sl 1 (l.map sPV)), .c (.v (.int .i64 2500))] (.c (.v (.int .i64 (textsB l)))) := by
 obtain ⟨V, hV⟩ : ∃ V, V = textsB l := ⟨_, rfl⟩
 rw [← hV]
 unfold textsB at hV
 have hw21 : IntKind.i64.wrap (2500 + 1) = 2501 := by rfl
 refine VC.toldP ent_65 Tryz.func65 rfl Tryz.ntmps65 fun hb => ?_
 clear hb
 refine walkG ?_
 refine VC.cond (by rfl) (by trivial) (fun hc => ?_) (fun hc => ?_)
 · have hcc : 2500 < l.length := by simp at hc; omega
   rw [if_pos hcc] at hV
   subst hV
   refine walkGF (hw21) ?_
   refine retX Tryz.results65 ?_
   exact .c _
 have hcc : ¬ 2500 < l.length := by simp at hc; omega
 rw [if_neg hcc] at hV
 clear hc
 refine walkG ?_
 refine VC.loop (ι := {x : Nat × Nat // x.1 ≤ l.length ∧ x.2 ≤ 5000 ∧ textsL x.2 (l.drop x.1) = V}) (fun q => [(0, .c (.sl 1 (l.map sPV))), (1, .c (.v (.int .i64 2500))), (5, .c (.v (.int .i64 (q.1.2 : Int)))), (6, .c (.v (.int .i64 (q.1.1 : Int))))]) (fun _ => []) 800 (fun q => l.length - q.1.1)
  ⟨(0, l.length), Nat.zero_le _, by simp only []; omega, by rw [List.drop_zero]; exact hV.symm⟩ ?_ ?_
 · exact weakZ
 clear hV
 rintro ⟨⟨i, n⟩, hi, hn, hV⟩
 simp only [] at hi hn hV ⊢
 refine walkG ?_
 refine VC.cond (by rfl) (by trivial) (fun hc => ?_) (fun hc => ?_)
 · have hcc : i < l.length ∧ n ≤ 2500 := by simp at hc; omega
   clear hc
   obtain ⟨y, hy⟩ : ∃ y, l[i]? = some y := ⟨l[i], List.getElem?_eq_getElem hcc.1⟩
   have hyp : (l.map sPV)[i]? = some (sPV y) := by rw [List.getElem?_map, hy]; rfl
   rw [textsL_step hy hcc.2] at hV
   have hw : IntKind.i64.wrap ((i : Int) + 1) = (i : Int) + 1 := wrap64_id (by omega) (by omega)
   refine walkGF (And.intro hyp (And.intro @sPV_eq @str_size)) ?_
   refine VC.cond (by rfl) (by trivial) (fun hc2 => ?_) (fun hc2 => ?_)
   · rw [if_pos (by simp at hc2; omega)] at hV
     subst hV
     refine walkGF (hw21) ?_
     refine retX Tryz.results65 ?_
     exact .c _
   · have hyl : y.length ≤ 2500 := by simp at hc2; omega
     rw [if_neg (by omega)] at hV
     have hw2 : IntKind.i64.wrap ((n : Int) + (y.length : Int)) = ((n + y.length : Nat) : Int) := by rw [wrap64_id (by omega) (by omega)]; rfl
     refine walkGF (And.intro hyp (And.intro @sPV_eq (And.intro @str_size (And.intro hw hw2)))) ?_
     refine .next ⟨(i + 1, n + y.length), by simp only []; omega, by simp only []; omega, hV⟩ ?_ (by simp only []; omega)
     simp only [Weak, eq_self, used_is, sc_any, sc_c, sc_pp, sc_ref, sc_row, sc_agg, sc_fn, ScL, some_imp, List.forall_mem_map, go_sem, Int.reduceBEq, Int.reduceLE, Int.reduceLT, Int.reduceNeg, Nat.reduceAdd, Nat.reduceEqDiff, Nat.reduceLT, Nat.reduceLeDiff, Nat.reduceMul, Nat.reduceSub, reduceCtorEq, ↓reduceIte]
     try exact cI (by omega)
 · have hcc : ¬ (i < l.length ∧ n ≤ 2500) := by simp at hc; omega
   rw [textsL_end hcc] at hV
   subst hV
   refine walkG ?_
   refine retX Tryz.results65 ?_
   exact .c _
theorem fieldsB_step {l : List FT} {i n : Nat} {f : FT} (hf : l[i]? = some f) (hn : n ≤ 2500) : fieldsB n (l.drop i) = if 2500 < f.name.length then none else fieldsB (n + f.name.length + textsB f.aliases + tbulk5 0 f.dflt) (l.drop (i + 1)) := by
 obtain ⟨hlt, rfl⟩ := List.getElem?_eq_some_iff.1 hf
 rw [List.drop_eq_getElem_cons hlt, fieldsB, if_pos hn]
theorem fieldsB_end {l : List FT} {i n : Nat} (h : ¬ (i < l.length ∧ n ≤ 2500)) : fieldsB n (l.drop i) = some n := by
 by_cases hlt : i < l.length
 · rw [List.drop_eq_getElem_cons hlt, fieldsB, if_neg (by omega)]
 · rw [List.drop_of_length_le (by omega), fieldsB]
theorem nodesB_end {l : List NT} {i n : Nat} (h : ¬ (i < l.length ∧ n ≤ 2500)) : nodesB n (l.drop i) = n := by
 by_cases hlt : i < l.length
 · rw [List.drop_eq_getElem_cons hlt, nodesB, if_neg (by omega)]
 · rw [List.drop_of_length_le (by omega), nodesB]
theorem nodesB_step {l : List NT} {i n : Nat} {x : NT} (hx : l[i]? = some x) (hn : n ≤ 2500) : nodesB n (l.drop i) = if 2500 < x.name.length ∨ 2500 < x.fields.length ∨ 2500 < x.branches.length ∨ 2500 < x.dflt.length then 2501 else
   match fieldsB (n + x.name.length + x.fields.length + x.branches.length + x.dflt.length + textsB x.aliases + textsB x.symbols) x.fields with | none => 2501 | some m => nodesB m (l.drop (i + 1)) := by
 obtain ⟨hlt, rfl⟩ := List.getElem?_eq_some_iff.1 hx
 rw [List.drop_eq_getElem_cons hlt, nodesB, if_pos hn]
 generalize fieldsB _ _ = F
 cases F <;> rfl
theorem sbulk_told (s : ST) : Told Tryz.prog 33 [s.av, .c (.v (.int .i64 2500))] (.c (.v (.int .i64 (sbulk s)))) := by
 obtain ⟨V, hV⟩ : ∃ V, V = sbulk s := ⟨_, rfl⟩
 rw [← hV]
 unfold sbulk at hV
 have hw21 : IntKind.i64.wrap (2500 + 1) = 2501 := by rfl
 rw [ST.av_eq, scells_mk]
 refine VC.toldP ent_33 Tryz.func33 rfl Tryz.ntmps33 fun hb => ?_
 clear hb
 refine walkG ?_
 refine VC.cond (by rfl) (by trivial) (fun hc => ?_) (fun hc => ?_)
 · have hcc : 2500 < s.nodes.length := by simp at hc; omega
   rw [if_pos hcc] at hV
   subst hV
   refine walkGF (hw21) ?_
   refine retX Tryz.results33 ?_
   exact .c _
 have hcc : ¬ 2500 < s.nodes.length := by simp at hc; omega
 rw [if_neg hcc] at hV
 clear hc
 refine walkG ?_
 refine VC.loop (ι := {x : Nat × Nat // x.1 ≤ s.nodes.length ∧ x.2 ≤ 300000 ∧ nodesB x.2 (s.nodes.drop x.1) = V}) (fun q => [(1, .c (.v (.int .i64 2500))), (2, .ref 0 1 0 0), (5, .c (.v (.int .i64 (q.1.2 : Int)))), (6, .c (.v (.int .i64 (q.1.1 : Int))))])
  (fun q => [(0, ⟨false, 24, 2, [[.c (.sl 10 (s.nodes.map NT.cells)), .c (.v (.int .i64 s.root))]]⟩)]) 800 (fun q => s.nodes.length - q.1.1)
  ⟨(0, s.nodes.length), Nat.zero_le _, by simp only []; omega, by rw [List.drop_zero]; exact hV.symm⟩ ?_ ?_
 · exact weakZ
 clear hV
 rintro ⟨⟨i, b⟩, hi, hb, hV⟩
 simp only [] at hi hb hV ⊢
 refine walkG ?_
 refine VC.cond (by rfl) (by trivial) (fun hc => ?_) (fun hc => ?_)
 · have hcc2 : i < s.nodes.length ∧ b ≤ 2500 := by simp at hc; omega
   clear hc
   obtain ⟨x, hx⟩ : ∃ x, s.nodes[i]? = some x := ⟨s.nodes[i], List.getElem?_eq_getElem hcc2.1⟩
   have hxp : (s.nodes.map NT.cells)[i]? = some x.cells := by rw [List.getElem?_map, hx]; rfl
   rw [nodesB_step hx hcc2.2] at hV
   have hw : IntKind.i64.wrap ((i : Int) + 1) = (i : Int) + 1 := wrap64_id (by omega) (by omega)
   refine walkGF (And.intro hxp (And.intro @ncells_mk @str_size)) ?_
   refine VC.cond (by rfl) (by trivial) (fun hc2 => ?_) (fun hc2 => ?_)
   · rw [if_pos (by simp at hc2; omega)] at hV
     subst hV
     refine walkGF (hw21) ?_
     refine retX Tryz.results33 ?_
     exact .c _
   have hsm : ¬ (2500 < x.name.length ∨ 2500 < x.fields.length ∨ 2500 < x.branches.length ∨ 2500 < x.dflt.length) := by simp at hc2; omega
   rw [if_neg hsm] at hV
   clear hc2
   have hT1 := texts_told x.aliases
   have hT2 := texts_told x.symbols
   have ht1 := textsB_le x.aliases
   have ht2 := textsB_le x.symbols
   generalize textsB x.aliases = t1 at hT1 ht1 hV
   generalize textsB x.symbols = t2 at hT2 ht2 hV
   have w1 : IntKind.i64.wrap ((b : Int) + (x.name.length : Int)) = (b : Int) + (x.name.length : Int) := wrap64_id (by omega) (by omega)
   have w2 : IntKind.i64.wrap ((b : Int) + (x.name.length : Int) + (x.fields.length : Int)) = (b : Int) + (x.name.length : Int) + (x.fields.length : Int) := wrap64_id (by omega) (by omega)
   have w3 : IntKind.i64.wrap ((b : Int) + (x.name.length : Int) + (x.fields.length : Int) + (x.branches.length : Int)) = (b : Int) + (x.name.length : Int) + (x.fields.length : Int) + (x.branches.length : Int) := wrap64_id (by omega) (by omega)
   have w4 : IntKind.i64.wrap ((b : Int) + (x.name.length : Int) + (x.fields.length : Int) + (x.branches.length : Int) + (x.dflt.length : Int)) = (b : Int) + (x.name.length : Int) + (x.fields.length : Int) + (x.branches.length : Int) + (x.dflt.length : Int) := wrap64_id (by omega) (by omega)
   have w5 : IntKind.i64.wrap ((b : Int) + (x.name.length : Int) + (x.fields.length : Int) + (x.branches.length : Int) + (x.dflt.length : Int) + (t1 : Int)) = (b : Int) + (x.name.length : Int) + (x.fields.length : Int) + (x.branches.length : Int) + (x.dflt.length : Int) + (t1 : Int) := wrap64_id (by omega) (by omega)
   have w6 : IntKind.i64.wrap ((b : Int) + (x.name.length : Int) + (x.fields.length : Int) + (x.branches.length : Int) + (x.dflt.length : Int) + (t1 : Int) + (t2 : Int)) = ((b + x.name.length + x.fields.length + x.branches.length + x.dflt.length + t1 + t2 : Nat) : Int) := by rw [wrap64_id (by omega) (by omega)]; rfl
   obtain ⟨b0, hb0⟩ : ∃ b0, b0 = b + x.name.length + x.fields.length + x.branches.length + x.dflt.length + t1 + t2 := ⟨_, rfl⟩
   have hb0l : b0 ≤ 30000 := by omega
   rw [← hb0] at hV w6
   clear hb0
   refine walkGF (And.intro @str_size (And.intro w1 (And.intro w2 (And.intro w3 (And.intro w4 (And.intro w5 w6)))))) ?_
   refine walkC (hT1) ?_
   refine walkGF (w5) ?_
   refine walkC (hT2) ?_
   refine walkGF (w6) ?_
   clear hT1 hT2 w1 w2 w3 w4 w5 w6 ht1 ht2
   obtain ⟨F, hF⟩ : ∃ F, F = fieldsB b0 x.fields := ⟨_, rfl⟩
   rw [← hF] at hV
   have hFl : ∀ m, F = some m → m ≤ 300000 := fun m hm => fieldsB_le x.fields b0 m (by omega) (hF ▸ hm)
   refine VC.loop (ι := {y : Nat × Nat // y.1 ≤ x.fields.length ∧ y.2 ≤ 300000 ∧ fieldsB y.2 (x.fields.drop y.1) = F})
    (fun q => [(1, .c (.v (.int .i64 2500))), (2, .ref 0 1 0 0), (5, .c (.v (.int .i64 (q.1.2 : Int)))), (6, .c (.v (.int .i64 (i : Int)))), (7, .ref 920 1 0 0), (8, .c (.v (.int .i64 (q.1.1 : Int))))])
    (fun q => [(0, ⟨false, 24, 2, [[.c (.sl 10 (s.nodes.map NT.cells)), .c (.v (.int .i64 s.root))]]⟩), (920, ⟨false, 33, 10, [x.cells.map .c]⟩)]) 4000 (fun q => x.fields.length - q.1.1)
    ⟨(0, b0), Nat.zero_le _, by simp only []; omega, by rw [List.drop_zero]; exact hF.symm⟩ ?_ ?_
   · exact weakZF (@ncells_mk)
   clear hF
   rintro ⟨⟨k, c⟩, hk, hc, hF⟩
   simp only [] at hk hc hF ⊢
   refine walkGF (@ncells_mk) ?_
   refine VC.cond (by rfl) (by trivial) (fun hc2 => ?_) (fun hc2 => ?_)
   · have hcc3 : k < x.fields.length ∧ c ≤ 2500 := by simp at hc2; omega
     clear hc2
     obtain ⟨f, hf⟩ : ∃ f, x.fields[k]? = some f := ⟨x.fields[k], List.getElem?_eq_getElem hcc3.1⟩
     have hfp : (x.fields.map FT.cells)[k]? = some f.cells := by rw [List.getElem?_map, hf]; rfl
     rw [fieldsB_step hf hcc3.2] at hF
     have hwk : IntKind.i64.wrap ((k : Int) + 1) = (k : Int) + 1 := wrap64_id (by omega) (by omega)
     refine walkGF (And.intro @ncells_mk (And.intro hfp (And.intro @fcells_mk @str_size))) ?_
     refine VC.cond (by rfl) (by trivial) (fun hc2 => ?_) (fun hc2 => ?_)
     · rw [if_pos (by simp at hc2; omega)] at hF
       subst hF
       simp only [] at hV
       subst hV
       refine walkGF (hw21) ?_
       refine retX Tryz.results33 ?_
       exact .c _
     have hnl : f.name.length ≤ 2500 := by simp at hc2; omega
     rw [if_neg (by omega)] at hF
     clear hc2
     have hT := texts_told f.aliases
     have ht := textsB_le f.aliases
     have hB := bulk_told5 _ f.dflt (Nat.le_refl _) 0 0 (by omega) rfl
     have hbt := tbulk5_top f.dflt
     generalize textsB f.aliases = t at hT ht hF
     generalize tbulk5 0 f.dflt = u at hB hbt hF
     simp only [JT.av_eq] at hB
     have w1 : IntKind.i64.wrap ((c : Int) + (f.name.length : Int)) = (c : Int) + (f.name.length : Int) := wrap64_id (by omega) (by omega)
     have w2 : IntKind.i64.wrap ((c : Int) + (f.name.length : Int) + (t : Int)) = (c : Int) + (f.name.length : Int) + (t : Int) := wrap64_id (by omega) (by omega)
     have w3 : IntKind.i64.wrap ((c : Int) + (f.name.length : Int) + (t : Int) + (u : Int)) = ((c + f.name.length + t + u : Nat) : Int) := by rw [wrap64_id (by omega) (by omega)]; rfl
     refine walkGF (And.intro @ncells_mk (And.intro hfp (And.intro @fcells_mk (And.intro @str_size w1)))) ?_
     refine walkC (hT) ?_
     refine walkGF (And.intro @ncells_mk (And.intro hfp (And.intro @fcells_mk (And.intro w2 (And.intro @len_cells (And.intro @take_cells @take_cellsC)))))) ?_
     refine walkCF (@pureL_c) (hB) ?_
     refine walkGF (And.intro w3 hwk) ?_
     refine .next ⟨(k + 1, c + f.name.length + t + u), by simp only []; omega, by simp only []; omega, hF⟩ ?_ (by simp only []; omega)
     simp only [ncells_mk, Weak, eq_self, used_is, sc_any, sc_c, sc_pp, sc_ref, sc_row, sc_agg, sc_fn, ScL, some_imp, List.forall_mem_map, go_sem, Int.reduceBEq, Int.reduceLE, Int.reduceLT, Int.reduceNeg, Nat.reduceAdd, Nat.reduceEqDiff, Nat.reduceLT, Nat.reduceLeDiff, Nat.reduceMul, Nat.reduceSub, reduceCtorEq, ↓reduceIte]
     try exact cI (by omega)
   · have hcc3 : ¬ (k < x.fields.length ∧ c ≤ 2500) := by simp at hc2; omega
     rw [fieldsB_end hcc3] at hF
     subst hF
     simp only [] at hV
     refine walkGF (hw) ?_
     refine .next ⟨(i + 1, c), by simp only []; omega, hc, hV⟩ ?_ (by simp only []; omega)
     simp only [Weak, eq_self, used_is, sc_any, sc_c, sc_pp, sc_ref, sc_row, sc_agg, sc_fn, ScL, some_imp, List.forall_mem_map, go_sem, Int.reduceBEq, Int.reduceLE, Int.reduceLT, Int.reduceNeg, Nat.reduceAdd, Nat.reduceEqDiff, Nat.reduceLT, Nat.reduceLeDiff, Nat.reduceMul, Nat.reduceSub, reduceCtorEq, ↓reduceIte]
     try exact cI (by omega)
 · have hcc2 : ¬ (i < s.nodes.length ∧ b ≤ 2500) := by simp at hc; omega
   rw [nodesB_end hcc2] at hV
   subst hV
   refine walkG ?_
   refine retX Tryz.results33 ?_
   exact .c _
theorem sgreat_told (s : ST) : Told Tryz.prog 8 [s.av] (.c (.v (.bool (decide (2500 < (sbulk s : Int)))))) := by
 have hB := sbulk_told s
 simp only [ST.av_eq, scells_mk, List.map_cons, List.map_nil] at hB
 rw [ST.av_eq, scells_mk]
 refine VC.toldP ent_8 Tryz.func8 rfl Tryz.ntmps8 fun hb => ?_
 clear hb
 refine walkG ?_
 refine walkC (hB) ?_
 refine walkG ?_
 refine retX Tryz.results8 ?_
 exact .c _

theorem rzag_told (u : Nat) (h : u < 18446744073709551616) : Told Tryz.prog 246 [.c (.v (.int .u64 (u : Int)))] (.c (.v (.int .i64 (zagN u)))) := by
 have hr : (u : Int).tmod 2 = ((u % 2 : Nat) : Int) := by rw [Int.tmod_eq_emod_of_nonneg (by omega)]; omega
 have hq : (u : Int).tdiv 2 = ((u / 2 : Nat) : Int) := by rw [Int.tdiv_eq_ediv_of_nonneg (by omega)]; omega
 have hw1 : IntKind.u64.wrap ((u % 2 : Nat) : Int) = ((u % 2 : Nat) : Int) := by rw [IntKind.wrap_u64]; omega
 have hw2 : IntKind.u64.wrap ((u / 2 : Nat) : Int) = ((u / 2 : Nat) : Int) := by rw [IntKind.wrap_u64]; omega
 have hw3 : IntKind.i64.wrap ((u / 2 : Nat) : Int) = ((u / 2 : Nat) : Int) := wrap64_id (by omega) (by omega)
 have hw4 : IntKind.i64.wrap (0 - ((u / 2 : Nat) : Int)) = -((u / 2 : Nat) : Int) := by rw [wrap64_id (by omega) (by omega)]; omega
 have hw5 : IntKind.i64.wrap (-((u / 2 : Nat) : Int) - 1) = -((u / 2 : Nat) : Int) - 1 := wrap64_id (by omega) (by omega)
 unfold zagN
 by_cases h0 : u % 2 = 0
 · rw [if_pos h0]
   have e1 : (((u % 2 : Nat) : Int) == 0) = true := by rw [h0]; rfl
   refine VC.toldP ent_246 Tryz.func246 rfl Tryz.ntmps246 fun hb => ?_
   clear hb
   refine walkBF (And.intro hr (And.intro hq (And.intro hw1 (And.intro hw2 (And.intro hw3 e1))))) ?_
   refine retX Tryz.results246 ?_
   exact .c _
 · rw [if_neg h0]
   have e1 : (((u % 2 : Nat) : Int) == 0) = false := by rw [show u % 2 = 1 by omega]; rfl
   refine VC.toldP ent_246 Tryz.func246 rfl Tryz.ntmps246 fun hb => ?_
   clear hb
   refine walkBF (And.intro hr (And.intro hq (And.intro hw1 (And.intro hw2 (And.intro hw3 (And.intro hw4 (And.intro hw5 e1))))))) ?_
   refine retX Tryz.results246 ?_
   exact .c _
theorem zag_range {u : Nat} (h : u < 18446744073709551616) : -9223372036854775808 ≤ zagN u ∧ zagN u ≤ 9223372036854775807 := by
 unfold zagN
 split <;> omega
def lead : List UInt8 → Nat → Nat
 | c :: cs, k + 1 => if 128 ≤ c.toNat then lead cs k + 1 else 0
 | _, _ => 0
theorem lead_le : ∀ (l : List UInt8) (k : Nat), lead l k ≤ l.length ∧ lead l k ≤ k
 | [], k => by cases k <;> simp [lead]
 | c :: cs, 0 => by simp [lead]
 | c :: cs, k + 1 => by
   have := lead_le cs k
   rw [lead]
   split
   · rw [List.length_cons]; omega
   · simp
theorem lead_step {l : List UInt8} {k n : Nat} (h : lead l k = n + 1) : ∃ c cs k', l = c :: cs ∧ k = k' + 1 ∧ 128 ≤ c.toNat ∧ lead cs k' = n := by
 cases l with
 | nil => cases k <;> simp [lead] at h
 | cons c cs =>
   cases k with
   | zero => simp [lead] at h
   | succ k =>
     rw [lead] at h
     split at h
     · rename_i hc
       exact ⟨c, cs, k, rfl, rfl, hc, by omega⟩
     · simp at h
theorem lead_end {l : List UInt8} {k : Nat} {c : UInt8} {cs : List UInt8} (h : lead l k = 0) (hl : l = c :: cs) (hk : 0 < k) : ¬ 128 ≤ c.toNat := by
 subst hl
 obtain ⟨k, rfl⟩ : ∃ k', k = k' + 1 := ⟨k - 1, by omega⟩
 rw [lead] at h
 split at h
 · simp at h
 · assumption
def foldU (l : List UInt8) (N : Nat) (u0 : Nat) : Nat → Nat
 | 0 => u0
 | j + 1 => (foldU l N u0 j * 128 + ((l[N - 1 - j]?).getD 0).toNat % 128) % 18446744073709551616
theorem foldU_lt (l : List UInt8) (N : Nat) (u0 : Nat) (h : u0 < 18446744073709551616) : ∀ j, foldU l N u0 j < 18446744073709551616
 | 0 => h
 | j + 1 => by rw [foldU]; exact Nat.mod_lt _ (by decide)
theorem r2take_told (most last : Nat) (hm : 0 < most) (hm2 : most ≤ 1000) (B : List UInt8) (hB : B.length ≤ 1000000) (p : Nat) (hp : p ≤ B.length) : ∃ (n : Int) (q : Nat) (e : Int), p ≤ q ∧ q ≤ B.length ∧ (e = 0 → p < q) ∧ (e ≠ 0 → q = p ∧ n = 0) ∧ (-9223372036854775808 ≤ n ∧ n ≤ 9223372036854775807) ∧
  Told Tryz.prog 238 [.c (.sl 1 (bytePV B)), .c (.v (.int .i64 (p : Int))), .c (.v (.int .i64 (most : Int))), .c (.v (.int .u8 (last : Int)))] (.tup [.c (.v (.int .i64 n)), .c (.v (.int .i64 (q : Int))), .c (.v (.int .i64 e))]) := by
 have hbl := bytePV_l B
 have e1 : decide ((p : Int) < 0) = false := by simp
 have e2 : decide ((p : Int) > (B.length : Int)) = false := by simp; omega
 have hwm : IntKind.i64.wrap ((most : Int) - 1) = ((most - 1 : Nat) : Int) := by rw [wrap64_id (by omega) (by omega)]; omega
 obtain ⟨D, hD⟩ : ∃ D, D = B.drop p := ⟨_, rfl⟩
 have hDl : D.length + p = B.length := by rw [hD, List.length_drop]; omega
 have hDg : ∀ i : Nat, B[p + i]? = D[i]? := fun i => by rw [hD, List.getElem?_drop]
 obtain ⟨N, hN⟩ : ∃ N, N = lead D (most - 1) := ⟨_, rfl⟩
 have hNl := lead_le D (most - 1)
 rw [← hN] at hNl
 by_cases h1 : N = D.length
 · refine ⟨0, p, 10, Nat.le_refl _, hp, fun h => absurd h (by decide), fun _ => ⟨rfl, rfl⟩, by decide, ?_⟩
   refine VC.toldP ent_238 Tryz.func238 rfl Tryz.ntmps238 fun hb => ?_
   clear hb
   refine walkBF (And.intro e1 (And.intro e2 hbl)) ?_
   refine VC.loop (ι := {i : Nat // i ≤ N ∧ lead (D.drop i) (most - 1 - i) = N - i}) (fun i => [(0, .c (.sl 1 (bytePV B))), (1, .c (.v (.int .i64 (p : Int)))), (2, .c (.v (.int .i64 (most : Int)))), (3, .c (.v (.int .u8 (last : Int)))), (11, .c (.v (.int .i64 (i.1 : Int))))]) (fun _ => []) 800 (fun i => N - i.1) ⟨0, Nat.zero_le _, by rw [List.drop_zero, Nat.sub_zero, Nat.sub_zero, hN]⟩ ?_ ?_
   · exact weakZ
   rintro ⟨i, hi, hli⟩
   simp only [] at hi hli ⊢
   have hw1 : IntKind.i64.wrap ((p : Int) + (i : Int)) = ((p + i : Nat) : Int) := by rw [wrap64_id (by omega) (by omega)]; omega
   have hw2 : IntKind.i64.wrap ((i : Int) + 1) = ((i + 1 : Nat) : Int) := by rw [wrap64_id (by omega) (by omega)]; omega
   by_cases hiN : i < N
   · obtain ⟨c, cs, k', h1, h2, h3, h4⟩ := lead_step (n := N - i - 1) (by rw [hli]; omega)
     have hci : D[i]? = some c := by
      have h5 : (D.drop i)[0]? = some c := by rw [h1]; rfl
      rw [List.getElem?_drop] at h5
      simpa using h5
     have hcs : D.drop (i + 1) = cs := by
      have h5 : (D.drop i).drop 1 = cs := by rw [h1]; rfl
      rw [List.drop_drop] at h5
      exact h5
     have hcp : (bytePV B)[p + i]? = some [.v (.int .u8 (c.toNat : Int))] := by unfold bytePV; rw [List.getElem?_map, hDg, hci]; rfl
     have e3 : decide (((p + i : Nat) : Int) < (B.length : Int)) = true := by simp; omega
     have e4 : decide ((i : Int) < ((most - 1 : Nat) : Int)) = true := by simp; omega
     have e5 : decide ((c.toNat : Int) ≥ 128) = true := by simp; omega
     refine walkBF (And.intro hbl (And.intro hw1 (And.intro hw2 (And.intro hwm (And.intro hcp (And.intro e3 (And.intro e4 e5))))))) ?_
     refine .next ⟨i + 1, hiN, ?_⟩ ?_ (by simp only []; omega)
     · rw [hcs, show most - 1 - (i + 1) = k' by omega, h4]
       omega
     · exact weakZ
   obtain rfl : i = N := by omega
   rw [Nat.sub_self] at hli
   have e3 : decide (((p + i : Nat) : Int) < (B.length : Int)) = false := by simp; omega
   have e6 : (((p + i : Nat) : Int) == (B.length : Int)) = true := by simp; omega
   refine walkBF (And.intro hbl (And.intro hw1 (And.intro hwm (And.intro e3 e6)))) ?_
   refine retX Tryz.results238 ?_
   exact ⟨.c _, .c _, .c _⟩
 obtain ⟨c, hc⟩ : ∃ c, D[N]? = some c := ⟨_, List.getElem?_eq_getElem (show N < D.length by omega)⟩
 have hc8 := c.toNat_lt
 have hend : N ≠ most - 1 → ¬ 128 ≤ c.toNat := fun hne => lead_end (l := D.drop N) (k := most - 1 - N) (cs := D.drop (N + 1)) (by
  have : ∀ (j : Nat) (l : List UInt8) (k : Nat), lead l k = j → lead (l.drop j) (k - j) = 0 := by
   intro j
   induction j with
   | zero => intro l k h; simpa using h
   | succ j ih =>
     intro l k h
     obtain ⟨c, cs, k', rfl, rfl, _, h4⟩ := lead_step h
     have := ih cs k' h4
     rw [List.drop_succ_cons, show k' + 1 - (j + 1) = k' - j by omega]
     exact this
  exact this N D (most - 1) hN.symm) (by
   obtain ⟨h5, h6⟩ := List.getElem?_eq_some_iff.1 hc
   rw [← h6]
   exact List.drop_eq_getElem_cons h5) (by omega)
 by_cases hbad : (N = most - 1 ∧ last < c.toNat) ∨ (0 < N ∧ c.toNat = 0)
 · refine ⟨0, p, 11, Nat.le_refl _, hp, fun h => absurd h (by decide), fun _ => ⟨rfl, rfl⟩, by decide, ?_⟩
   refine VC.toldP ent_238 Tryz.func238 rfl Tryz.ntmps238 fun hb => ?_
   clear hb
   refine walkBF (And.intro e1 (And.intro e2 hbl)) ?_
   refine VC.loop (ι := {i : Nat // i ≤ N ∧ lead (D.drop i) (most - 1 - i) = N - i}) (fun i => [(0, .c (.sl 1 (bytePV B))), (1, .c (.v (.int .i64 (p : Int)))), (2, .c (.v (.int .i64 (most : Int)))), (3, .c (.v (.int .u8 (last : Int)))), (11, .c (.v (.int .i64 (i.1 : Int))))]) (fun _ => []) 800 (fun i => N - i.1) ⟨0, Nat.zero_le _, by rw [List.drop_zero, Nat.sub_zero, Nat.sub_zero, hN]⟩ ?_ ?_
   · exact weakZ
   rintro ⟨i, hi, hli⟩
   simp only [] at hi hli ⊢
   have hw1 : IntKind.i64.wrap ((p : Int) + (i : Int)) = ((p + i : Nat) : Int) := by rw [wrap64_id (by omega) (by omega)]; omega
   have hw2 : IntKind.i64.wrap ((i : Int) + 1) = ((i + 1 : Nat) : Int) := by rw [wrap64_id (by omega) (by omega)]; omega
   by_cases hiN : i < N
   · obtain ⟨c, cs, k', h1, h2, h3, h4⟩ := lead_step (n := N - i - 1) (by rw [hli]; omega)
     have hci : D[i]? = some c := by
      have h5 : (D.drop i)[0]? = some c := by rw [h1]; rfl
      rw [List.getElem?_drop] at h5
      simpa using h5
     have hcs : D.drop (i + 1) = cs := by
      have h5 : (D.drop i).drop 1 = cs := by rw [h1]; rfl
      rw [List.drop_drop] at h5
      exact h5
     have hcp : (bytePV B)[p + i]? = some [.v (.int .u8 (c.toNat : Int))] := by unfold bytePV; rw [List.getElem?_map, hDg, hci]; rfl
     have e3 : decide (((p + i : Nat) : Int) < (B.length : Int)) = true := by simp; omega
     have e4 : decide ((i : Int) < ((most - 1 : Nat) : Int)) = true := by simp; omega
     have e5 : decide ((c.toNat : Int) ≥ 128) = true := by simp; omega
     refine walkBF (And.intro hbl (And.intro hw1 (And.intro hw2 (And.intro hwm (And.intro hcp (And.intro e3 (And.intro e4 e5))))))) ?_
     refine .next ⟨i + 1, hiN, ?_⟩ ?_ (by simp only []; omega)
     · rw [hcs, show most - 1 - (i + 1) = k' by omega, h4]
       omega
     · exact weakZ
   obtain rfl : i = N := by omega
   rw [Nat.sub_self] at hli
   have hlt : i < D.length := by omega
   have hpi : p + i < B.length := by omega
   have e3 : decide (((p + i : Nat) : Int) < (B.length : Int)) = true := by simp; omega
   have hcp : (bytePV B)[p + i]? = some [.v (.int .u8 (c.toNat : Int))] := by unfold bytePV; rw [List.getElem?_map, hDg, hc]; rfl
   have e6 : (((p + i : Nat) : Int) == (B.length : Int)) = false := by simp; omega
   have f1 : ((i : Int) == ((most - 1 : Nat) : Int)) = decide (i = most - 1) := by rw [Bool.eq_iff_iff]; simp; omega
   have f2 : decide ((c.toNat : Int) > (last : Int)) = decide (last < c.toNat) := by simp
   have f3 : decide ((i : Int) > 0) = decide (0 < i) := by simp
   have f4 : ((c.toNat : Int) == 0) = decide (c.toNat = 0) := by rw [Bool.eq_iff_iff]; simp
   by_cases hm1 : i = most - 1
   · have e4 : decide ((i : Int) < ((most - 1 : Nat) : Int)) = false := by simp; omega
     rw [decide_eq_true hm1] at f1
     by_cases hl : last < c.toNat
     · rw [decide_eq_true hl] at f2
       refine walkBF (And.intro hbl (And.intro hw1 (And.intro hwm (And.intro hcp (And.intro e3 (And.intro e4 (And.intro e6 (And.intro f1 f2)))))))) ?_
       refine retX Tryz.results238 ?_
       exact ⟨.c _, .c _, .c _⟩
     · rw [decide_eq_false hl] at f2
       obtain ⟨b1, b2⟩ := hbad.resolve_left fun h => hl h.2
       rw [decide_eq_true b1] at f3
       rw [decide_eq_true b2] at f4
       refine walkBF (And.intro hbl (And.intro hw1 (And.intro hwm (And.intro hcp (And.intro e3 (And.intro e4 (And.intro e6 (And.intro f1 (And.intro f2 (And.intro f3 f4)))))))))) ?_
       refine retX Tryz.results238 ?_
       exact ⟨.c _, .c _, .c _⟩
   · have e4 : decide ((i : Int) < ((most - 1 : Nat) : Int)) = true := by have := lead_le D (most - 1); simp; omega
     have e5 : decide ((c.toNat : Int) ≥ 128) = false := by have := hend hm1; simp; omega
     rw [decide_eq_false hm1] at f1
     obtain ⟨b1, b2⟩ := hbad.resolve_left fun h => hm1 h.1
     rw [decide_eq_true b1] at f3
     rw [decide_eq_true b2] at f4
     refine walkBF (And.intro hbl (And.intro hw1 (And.intro hwm (And.intro hcp (And.intro e3 (And.intro e4 (And.intro e5 (And.intro e6 (And.intro f1 (And.intro f3 f4)))))))))) ?_
     refine retX Tryz.results238 ?_
     exact ⟨.c _, .c _, .c _⟩
 have hU := foldU_lt D N c.toNat (by omega)
 have hzg := zag_range (hU N)
 refine ⟨zagN (foldU D N c.toNat N), p + N + 1, 0, by omega, by omega, fun _ => by omega, fun h => absurd rfl h, hzg, ?_⟩
 have hZ := rzag_told (foldU D N c.toNat N) (hU N)
 refine VC.toldP ent_238 Tryz.func238 rfl Tryz.ntmps238 fun hb => ?_
 clear hb
 refine walkBF (And.intro e1 (And.intro e2 hbl)) ?_
 refine VC.loop (ι := {i : Nat // i ≤ N ∧ lead (D.drop i) (most - 1 - i) = N - i}) (fun i => [(0, .c (.sl 1 (bytePV B))), (1, .c (.v (.int .i64 (p : Int)))), (2, .c (.v (.int .i64 (most : Int)))), (3, .c (.v (.int .u8 (last : Int)))), (11, .c (.v (.int .i64 (i.1 : Int))))]) (fun _ => []) 800 (fun i => N - i.1) ⟨0, Nat.zero_le _, by rw [List.drop_zero, Nat.sub_zero, Nat.sub_zero, hN]⟩ ?_ ?_
 · exact weakZ
 rintro ⟨i, hi, hli⟩
 simp only [] at hi hli ⊢
 have hw1 : IntKind.i64.wrap ((p : Int) + (i : Int)) = ((p + i : Nat) : Int) := by rw [wrap64_id (by omega) (by omega)]; omega
 have hw2 : IntKind.i64.wrap ((i : Int) + 1) = ((i + 1 : Nat) : Int) := by rw [wrap64_id (by omega) (by omega)]; omega
 by_cases hiN : i < N
 · obtain ⟨c, cs, k', h1, h2, h3, h4⟩ := lead_step (n := N - i - 1) (by rw [hli]; omega)
   have hci : D[i]? = some c := by
    have h5 : (D.drop i)[0]? = some c := by rw [h1]; rfl
    rw [List.getElem?_drop] at h5
    simpa using h5
   have hcs : D.drop (i + 1) = cs := by
    have h5 : (D.drop i).drop 1 = cs := by rw [h1]; rfl
    rw [List.drop_drop] at h5
    exact h5
   have hcp : (bytePV B)[p + i]? = some [.v (.int .u8 (c.toNat : Int))] := by unfold bytePV; rw [List.getElem?_map, hDg, hci]; rfl
   have e3 : decide (((p + i : Nat) : Int) < (B.length : Int)) = true := by simp; omega
   have e4 : decide ((i : Int) < ((most - 1 : Nat) : Int)) = true := by simp; omega
   have e5 : decide ((c.toNat : Int) ≥ 128) = true := by simp; omega
   refine walkBF (And.intro hbl (And.intro hw1 (And.intro hw2 (And.intro hwm (And.intro hcp (And.intro e3 (And.intro e4 e5))))))) ?_
   refine .next ⟨i + 1, hiN, ?_⟩ ?_ (by simp only []; omega)
   · rw [hcs, show most - 1 - (i + 1) = k' by omega, h4]
     omega
   · exact weakZ
 obtain rfl : i = N := by omega
 rw [Nat.sub_self] at hli
 have hlt : i < D.length := by omega
 have hpi : p + i < B.length := by omega
 have e3 : decide (((p + i : Nat) : Int) < (B.length : Int)) = true := by simp; omega
 have hcp : (bytePV B)[p + i]? = some [.v (.int .u8 (c.toNat : Int))] := by unfold bytePV; rw [List.getElem?_map, hDg, hc]; rfl
 have e6 : (((p + i : Nat) : Int) == (B.length : Int)) = false := by simp; omega
 have f1 : ((i : Int) == ((most - 1 : Nat) : Int)) = decide (i = most - 1) := by rw [Bool.eq_iff_iff]; simp; omega
 have f2 : decide ((c.toNat : Int) > (last : Int)) = decide (last < c.toNat) := by simp
 have f3 : decide ((i : Int) > 0) = decide (0 < i) := by simp
 have f4 : ((c.toNat : Int) == 0) = decide (c.toNat = 0) := by rw [Bool.eq_iff_iff]; simp
 have hwc : IntKind.u64.wrap (c.toNat : Int) = ((foldU D i c.toNat 0 : Nat) : Int) := by rw [IntKind.wrap_u64, foldU]; omega
 have hwi : IntKind.i64.wrap ((i : Int) - 1) = (i : Int) - 1 := wrap64_id (by omega) (by omega)
 have hwq : IntKind.i64.wrap (((p + i : Nat) : Int) + 1) = ((p + i + 1 : Nat) : Int) := by rw [wrap64_id (by omega) (by omega)]; omega
 by_cases hm1 : i = most - 1
 · have e4 : decide ((i : Int) < ((most - 1 : Nat) : Int)) = false := by simp; omega
   rw [decide_eq_true hm1] at f1
   have hl : ¬ last < c.toNat := fun h => hbad (.inl ⟨hm1, h⟩)
   rw [decide_eq_false hl] at f2
   obtain ⟨b3, hb3⟩ : ∃ b, b = decide (0 < i) := ⟨_, rfl⟩
   obtain ⟨b4, hb4⟩ : ∃ b, b = decide (c.toNat = 0) := ⟨_, rfl⟩
   rw [← hb3] at f3
   rw [← hb4] at f4
   have hb34 : b3 = false ∨ b4 = false := by
    by_cases h0 : 0 < i
    · exact .inr (by rw [hb4]; exact decide_eq_false fun h => hbad (.inr ⟨h0, h⟩))
    · exact .inl (by rw [hb3]; exact decide_eq_false h0)
   clear hb3 hb4
   rcases hb34 with rfl | rfl
   · refine walkBF (And.intro hbl (And.intro hw1 (And.intro hwm (And.intro hcp (And.intro e3 (And.intro e4 (And.intro e6 (And.intro f1 (And.intro f2 (And.intro f3 (And.intro hwc hwi))))))))))) ?_
     refine VC.loop (ι := {j : Nat // j ≤ i}) (fun j => [(0, .c (.sl 1 (bytePV B))), (1, .c (.v (.int .i64 (p : Int)))), (11, .c (.v (.int .i64 (i : Int)))), (13, .c (.v (.int .u64 ((foldU D i c.toNat j.1 : Nat) : Int)))), (14, .c (.v (.int .i64 ((i : Int) - 1 - (j.1 : Int)))))]) (fun _ => []) 4000 (fun j => i - j.1) ⟨0, Nat.zero_le _⟩ ?_ ?_
     · simp only [Weak, eq_self, used_is, sc_any, sc_c, sc_pp, sc_ref, sc_row, sc_agg, sc_fn, ScL, some_imp, List.forall_mem_map, go_sem, Int.reduceBEq, Int.reduceLE, Int.reduceLT, Int.reduceNeg, Nat.reduceAdd, Nat.reduceEqDiff, Nat.reduceLT, Nat.reduceLeDiff, Nat.reduceMul, Nat.reduceSub, reduceCtorEq, ↓reduceIte]
       (try simp)
     rintro ⟨j, hj⟩
     simp only [] at hj ⊢
     by_cases hji : j < i
     · obtain ⟨y, hy⟩ : ∃ y, D[i - 1 - j]? = some y := ⟨_, List.getElem?_eq_getElem (show i - 1 - j < D.length by omega)⟩
       have hy8 := y.toNat_lt
       have g1 : decide ((i : Int) - 1 - (j : Int) ≥ 0) = true := by simp; omega
       have g2 : IntKind.i64.wrap ((p : Int) + ((i : Int) - 1 - (j : Int))) = ((p + (i - 1 - j) : Nat) : Int) := by rw [wrap64_id (by omega) (by omega)]; omega
       have g3 : (bytePV B)[p + (i - 1 - j)]? = some [.v (.int .u8 (y.toNat : Int))] := by unfold bytePV; rw [List.getElem?_map, hDg, hy]; rfl
       have g4 : (y.toNat : Int).tmod 128 = ((y.toNat % 128 : Nat) : Int) := by rw [Int.tmod_eq_emod_of_nonneg (by omega)]; omega
       have g5 : IntKind.u8.wrap ((y.toNat % 128 : Nat) : Int) = ((y.toNat % 128 : Nat) : Int) := by rw [IntKind.wrap_u8]; omega
       have g6 : IntKind.u64.wrap ((y.toNat % 128 : Nat) : Int) = ((y.toNat % 128 : Nat) : Int) := by rw [IntKind.wrap_u64]; omega
       have g7 : IntKind.u64.wrap (IntKind.u64.wrap (((foldU D i c.toNat j : Nat) : Int) * 128) + ((y.toNat % 128 : Nat) : Int)) = ((foldU D i c.toNat (j + 1) : Nat) : Int) := by
        rw [foldU, hy, IntKind.wrap_u64, IntKind.wrap_u64]
        simp only [Option.getD_some]
        omega
       have g8 : IntKind.i64.wrap ((i : Int) - 1 - (j : Int) - 1) = (i : Int) - 1 - ((j + 1 : Nat) : Int) := by rw [wrap64_id (by omega) (by omega)]; omega
       have g9 : p + (i - 1 - j) < B.length := by omega
       generalize hU1 : foldU D i c.toNat (j + 1) = U1 at g7
       generalize hU0 : foldU D i c.toNat j = U0 at g7
       refine walkBF (And.intro hbl (And.intro g1 (And.intro g2 (And.intro g3 (And.intro g4 (And.intro g5 (And.intro g6 (And.intro g7 g8)))))))) ?_
       refine .next ⟨j + 1, hji⟩ ?_ (by simp only []; omega)
       simp only [Weak, eq_self, used_is, sc_any, sc_c, sc_pp, sc_ref, sc_row, sc_agg, sc_fn, ScL, some_imp, List.forall_mem_map, go_sem, Int.reduceBEq, Int.reduceLE, Int.reduceLT, Int.reduceNeg, Nat.reduceAdd, Nat.reduceEqDiff, Nat.reduceLT, Nat.reduceLeDiff, Nat.reduceMul, Nat.reduceSub, reduceCtorEq, ↓reduceIte]
       (try rw [hU1])
     · obtain rfl : j = i := by omega
       have g1 : decide ((j : Int) - 1 - (j : Int) ≥ 0) = false := by simp; omega
       generalize foldU D j c.toNat j = U at hZ
       refine walkBF (And.intro hbl g1) ?_
       refine walkC (hZ) ?_
       refine walkBF (And.intro hw1 hwq) ?_
       refine retX Tryz.results238 ?_
       exact ⟨.c _, .c _, .c _⟩
   · cases b3
     · refine walkBF (And.intro hbl (And.intro hw1 (And.intro hwm (And.intro hcp (And.intro e3 (And.intro e4 (And.intro e6 (And.intro f1 (And.intro f2 (And.intro f3 (And.intro hwc hwi))))))))))) ?_
       refine VC.loop (ι := {j : Nat // j ≤ i}) (fun j => [(0, .c (.sl 1 (bytePV B))), (1, .c (.v (.int .i64 (p : Int)))), (11, .c (.v (.int .i64 (i : Int)))), (13, .c (.v (.int .u64 ((foldU D i c.toNat j.1 : Nat) : Int)))), (14, .c (.v (.int .i64 ((i : Int) - 1 - (j.1 : Int)))))]) (fun _ => []) 4000 (fun j => i - j.1) ⟨0, Nat.zero_le _⟩ ?_ ?_
       · simp only [Weak, eq_self, used_is, sc_any, sc_c, sc_pp, sc_ref, sc_row, sc_agg, sc_fn, ScL, some_imp, List.forall_mem_map, go_sem, Int.reduceBEq, Int.reduceLE, Int.reduceLT, Int.reduceNeg, Nat.reduceAdd, Nat.reduceEqDiff, Nat.reduceLT, Nat.reduceLeDiff, Nat.reduceMul, Nat.reduceSub, reduceCtorEq, ↓reduceIte]
         (try simp)
       rintro ⟨j, hj⟩
       simp only [] at hj ⊢
       by_cases hji : j < i
       · obtain ⟨y, hy⟩ : ∃ y, D[i - 1 - j]? = some y := ⟨_, List.getElem?_eq_getElem (show i - 1 - j < D.length by omega)⟩
         have hy8 := y.toNat_lt
         have g1 : decide ((i : Int) - 1 - (j : Int) ≥ 0) = true := by simp; omega
         have g2 : IntKind.i64.wrap ((p : Int) + ((i : Int) - 1 - (j : Int))) = ((p + (i - 1 - j) : Nat) : Int) := by rw [wrap64_id (by omega) (by omega)]; omega
         have g3 : (bytePV B)[p + (i - 1 - j)]? = some [.v (.int .u8 (y.toNat : Int))] := by unfold bytePV; rw [List.getElem?_map, hDg, hy]; rfl
         have g4 : (y.toNat : Int).tmod 128 = ((y.toNat % 128 : Nat) : Int) := by rw [Int.tmod_eq_emod_of_nonneg (by omega)]; omega
         have g5 : IntKind.u8.wrap ((y.toNat % 128 : Nat) : Int) = ((y.toNat % 128 : Nat) : Int) := by rw [IntKind.wrap_u8]; omega
         have g6 : IntKind.u64.wrap ((y.toNat % 128 : Nat) : Int) = ((y.toNat % 128 : Nat) : Int) := by rw [IntKind.wrap_u64]; omega
         have g7 : IntKind.u64.wrap (IntKind.u64.wrap (((foldU D i c.toNat j : Nat) : Int) * 128) + ((y.toNat % 128 : Nat) : Int)) = ((foldU D i c.toNat (j + 1) : Nat) : Int) := by
          rw [foldU, hy, IntKind.wrap_u64, IntKind.wrap_u64]
          simp only [Option.getD_some]
          omega
         have g8 : IntKind.i64.wrap ((i : Int) - 1 - (j : Int) - 1) = (i : Int) - 1 - ((j + 1 : Nat) : Int) := by rw [wrap64_id (by omega) (by omega)]; omega
         have g9 : p + (i - 1 - j) < B.length := by omega
         generalize hU1 : foldU D i c.toNat (j + 1) = U1 at g7
         generalize hU0 : foldU D i c.toNat j = U0 at g7
         refine walkBF (And.intro hbl (And.intro g1 (And.intro g2 (And.intro g3 (And.intro g4 (And.intro g5 (And.intro g6 (And.intro g7 g8)))))))) ?_
         refine .next ⟨j + 1, hji⟩ ?_ (by simp only []; omega)
         simp only [Weak, eq_self, used_is, sc_any, sc_c, sc_pp, sc_ref, sc_row, sc_agg, sc_fn, ScL, some_imp, List.forall_mem_map, go_sem, Int.reduceBEq, Int.reduceLE, Int.reduceLT, Int.reduceNeg, Nat.reduceAdd, Nat.reduceEqDiff, Nat.reduceLT, Nat.reduceLeDiff, Nat.reduceMul, Nat.reduceSub, reduceCtorEq, ↓reduceIte]
         (try rw [hU1])
       · obtain rfl : j = i := by omega
         have g1 : decide ((j : Int) - 1 - (j : Int) ≥ 0) = false := by simp; omega
         generalize foldU D j c.toNat j = U at hZ
         refine walkBF (And.intro hbl g1) ?_
         refine walkC (hZ) ?_
         refine walkBF (And.intro hw1 hwq) ?_
         refine retX Tryz.results238 ?_
         exact ⟨.c _, .c _, .c _⟩
     · refine walkBF (And.intro hbl (And.intro hw1 (And.intro hwm (And.intro hcp (And.intro e3 (And.intro e4 (And.intro e6 (And.intro f1 (And.intro f2 (And.intro f3 (And.intro f4 (And.intro hwc hwi)))))))))))) ?_
       refine VC.loop (ι := {j : Nat // j ≤ i}) (fun j => [(0, .c (.sl 1 (bytePV B))), (1, .c (.v (.int .i64 (p : Int)))), (11, .c (.v (.int .i64 (i : Int)))), (13, .c (.v (.int .u64 ((foldU D i c.toNat j.1 : Nat) : Int)))), (14, .c (.v (.int .i64 ((i : Int) - 1 - (j.1 : Int)))))]) (fun _ => []) 4000 (fun j => i - j.1) ⟨0, Nat.zero_le _⟩ ?_ ?_
       · simp only [Weak, eq_self, used_is, sc_any, sc_c, sc_pp, sc_ref, sc_row, sc_agg, sc_fn, ScL, some_imp, List.forall_mem_map, go_sem, Int.reduceBEq, Int.reduceLE, Int.reduceLT, Int.reduceNeg, Nat.reduceAdd, Nat.reduceEqDiff, Nat.reduceLT, Nat.reduceLeDiff, Nat.reduceMul, Nat.reduceSub, reduceCtorEq, ↓reduceIte]
         (try simp)
       rintro ⟨j, hj⟩
       simp only [] at hj ⊢
       by_cases hji : j < i
       · obtain ⟨y, hy⟩ : ∃ y, D[i - 1 - j]? = some y := ⟨_, List.getElem?_eq_getElem (show i - 1 - j < D.length by omega)⟩
         have hy8 := y.toNat_lt
         have g1 : decide ((i : Int) - 1 - (j : Int) ≥ 0) = true := by simp; omega
         have g2 : IntKind.i64.wrap ((p : Int) + ((i : Int) - 1 - (j : Int))) = ((p + (i - 1 - j) : Nat) : Int) := by rw [wrap64_id (by omega) (by omega)]; omega
         have g3 : (bytePV B)[p + (i - 1 - j)]? = some [.v (.int .u8 (y.toNat : Int))] := by unfold bytePV; rw [List.getElem?_map, hDg, hy]; rfl
         have g4 : (y.toNat : Int).tmod 128 = ((y.toNat % 128 : Nat) : Int) := by rw [Int.tmod_eq_emod_of_nonneg (by omega)]; omega
         have g5 : IntKind.u8.wrap ((y.toNat % 128 : Nat) : Int) = ((y.toNat % 128 : Nat) : Int) := by rw [IntKind.wrap_u8]; omega
         have g6 : IntKind.u64.wrap ((y.toNat % 128 : Nat) : Int) = ((y.toNat % 128 : Nat) : Int) := by rw [IntKind.wrap_u64]; omega
         have g7 : IntKind.u64.wrap (IntKind.u64.wrap (((foldU D i c.toNat j : Nat) : Int) * 128) + ((y.toNat % 128 : Nat) : Int)) = ((foldU D i c.toNat (j + 1) : Nat) : Int) := by
          rw [foldU, hy, IntKind.wrap_u64, IntKind.wrap_u64]
          simp only [Option.getD_some]
          omega
         have g8 : IntKind.i64.wrap ((i : Int) - 1 - (j : Int) - 1) = (i : Int) - 1 - ((j + 1 : Nat) : Int) := by rw [wrap64_id (by omega) (by omega)]; omega
         have g9 : p + (i - 1 - j) < B.length := by omega
         generalize hU1 : foldU D i c.toNat (j + 1) = U1 at g7
         generalize hU0 : foldU D i c.toNat j = U0 at g7
         refine walkBF (And.intro hbl (And.intro g1 (And.intro g2 (And.intro g3 (And.intro g4 (And.intro g5 (And.intro g6 (And.intro g7 g8)))))))) ?_
         refine .next ⟨j + 1, hji⟩ ?_ (by simp only []; omega)
         simp only [Weak, eq_self, used_is, sc_any, sc_c, sc_pp, sc_ref, sc_row, sc_agg, sc_fn, ScL, some_imp, List.forall_mem_map, go_sem, Int.reduceBEq, Int.reduceLE, Int.reduceLT, Int.reduceNeg, Nat.reduceAdd, Nat.reduceEqDiff, Nat.reduceLT, Nat.reduceLeDiff, Nat.reduceMul, Nat.reduceSub, reduceCtorEq, ↓reduceIte]
         (try rw [hU1])
       · obtain rfl : j = i := by omega
         have g1 : decide ((j : Int) - 1 - (j : Int) ≥ 0) = false := by simp; omega
         generalize foldU D j c.toNat j = U at hZ
         refine walkBF (And.intro hbl g1) ?_
         refine walkC (hZ) ?_
         refine walkBF (And.intro hw1 hwq) ?_
         refine retX Tryz.results238 ?_
         exact ⟨.c _, .c _, .c _⟩
 · have e4 : decide ((i : Int) < ((most - 1 : Nat) : Int)) = true := by have := lead_le D (most - 1); simp; omega
   have e5 : decide ((c.toNat : Int) ≥ 128) = false := by have := hend hm1; simp; omega
   rw [decide_eq_false hm1] at f1
   by_cases h0 : 0 < i
   · have hb4 : ¬ c.toNat = 0 := fun h => hbad (.inr ⟨h0, h⟩)
     rw [decide_eq_true h0] at f3
     rw [decide_eq_false hb4] at f4
     refine walkBF (And.intro hbl (And.intro hw1 (And.intro hwm (And.intro hcp (And.intro e3 (And.intro e4 (And.intro e5 (And.intro e6 (And.intro f1 (And.intro f3 (And.intro f4 (And.intro hwc hwi)))))))))))) ?_
     refine VC.loop (ι := {j : Nat // j ≤ i}) (fun j => [(0, .c (.sl 1 (bytePV B))), (1, .c (.v (.int .i64 (p : Int)))), (11, .c (.v (.int .i64 (i : Int)))), (13, .c (.v (.int .u64 ((foldU D i c.toNat j.1 : Nat) : Int)))), (14, .c (.v (.int .i64 ((i : Int) - 1 - (j.1 : Int)))))]) (fun _ => []) 4000 (fun j => i - j.1) ⟨0, Nat.zero_le _⟩ ?_ ?_
     · simp only [Weak, eq_self, used_is, sc_any, sc_c, sc_pp, sc_ref, sc_row, sc_agg, sc_fn, ScL, some_imp, List.forall_mem_map, go_sem, Int.reduceBEq, Int.reduceLE, Int.reduceLT, Int.reduceNeg, Nat.reduceAdd, Nat.reduceEqDiff, Nat.reduceLT, Nat.reduceLeDiff, Nat.reduceMul, Nat.reduceSub, reduceCtorEq, ↓reduceIte]
       (try simp)
     rintro ⟨j, hj⟩
     simp only [] at hj ⊢
     by_cases hji : j < i
     · obtain ⟨y, hy⟩ : ∃ y, D[i - 1 - j]? = some y := ⟨_, List.getElem?_eq_getElem (show i - 1 - j < D.length by omega)⟩
       have hy8 := y.toNat_lt
       have g1 : decide ((i : Int) - 1 - (j : Int) ≥ 0) = true := by simp; omega
       have g2 : IntKind.i64.wrap ((p : Int) + ((i : Int) - 1 - (j : Int))) = ((p + (i - 1 - j) : Nat) : Int) := by rw [wrap64_id (by omega) (by omega)]; omega
       have g3 : (bytePV B)[p + (i - 1 - j)]? = some [.v (.int .u8 (y.toNat : Int))] := by unfold bytePV; rw [List.getElem?_map, hDg, hy]; rfl
       have g4 : (y.toNat : Int).tmod 128 = ((y.toNat % 128 : Nat) : Int) := by rw [Int.tmod_eq_emod_of_nonneg (by omega)]; omega
       have g5 : IntKind.u8.wrap ((y.toNat % 128 : Nat) : Int) = ((y.toNat % 128 : Nat) : Int) := by rw [IntKind.wrap_u8]; omega
       have g6 : IntKind.u64.wrap ((y.toNat % 128 : Nat) : Int) = ((y.toNat % 128 : Nat) : Int) := by rw [IntKind.wrap_u64]; omega
       have g7 : IntKind.u64.wrap (IntKind.u64.wrap (((foldU D i c.toNat j : Nat) : Int) * 128) + ((y.toNat % 128 : Nat) : Int)) = ((foldU D i c.toNat (j + 1) : Nat) : Int) := by
        rw [foldU, hy, IntKind.wrap_u64, IntKind.wrap_u64]
        simp only [Option.getD_some]
        omega
       have g8 : IntKind.i64.wrap ((i : Int) - 1 - (j : Int) - 1) = (i : Int) - 1 - ((j + 1 : Nat) : Int) := by rw [wrap64_id (by omega) (by omega)]; omega
       have g9 : p + (i - 1 - j) < B.length := by omega
       generalize hU1 : foldU D i c.toNat (j + 1) = U1 at g7
       generalize hU0 : foldU D i c.toNat j = U0 at g7
       refine walkBF (And.intro hbl (And.intro g1 (And.intro g2 (And.intro g3 (And.intro g4 (And.intro g5 (And.intro g6 (And.intro g7 g8)))))))) ?_
       refine .next ⟨j + 1, hji⟩ ?_ (by simp only []; omega)
       simp only [Weak, eq_self, used_is, sc_any, sc_c, sc_pp, sc_ref, sc_row, sc_agg, sc_fn, ScL, some_imp, List.forall_mem_map, go_sem, Int.reduceBEq, Int.reduceLE, Int.reduceLT, Int.reduceNeg, Nat.reduceAdd, Nat.reduceEqDiff, Nat.reduceLT, Nat.reduceLeDiff, Nat.reduceMul, Nat.reduceSub, reduceCtorEq, ↓reduceIte]
       (try rw [hU1])
     · obtain rfl : j = i := by omega
       have g1 : decide ((j : Int) - 1 - (j : Int) ≥ 0) = false := by simp; omega
       generalize foldU D j c.toNat j = U at hZ
       refine walkBF (And.intro hbl g1) ?_
       refine walkC (hZ) ?_
       refine walkBF (And.intro hw1 hwq) ?_
       refine retX Tryz.results238 ?_
       exact ⟨.c _, .c _, .c _⟩
   · rw [decide_eq_false h0] at f3
     refine walkBF (And.intro hbl (And.intro hw1 (And.intro hwm (And.intro hcp (And.intro e3 (And.intro e4 (And.intro e5 (And.intro e6 (And.intro f1 (And.intro f3 (And.intro hwc hwi))))))))))) ?_
     refine VC.loop (ι := {j : Nat // j ≤ i}) (fun j => [(0, .c (.sl 1 (bytePV B))), (1, .c (.v (.int .i64 (p : Int)))), (11, .c (.v (.int .i64 (i : Int)))), (13, .c (.v (.int .u64 ((foldU D i c.toNat j.1 : Nat) : Int)))), (14, .c (.v (.int .i64 ((i : Int) - 1 - (j.1 : Int)))))]) (fun _ => []) 4000 (fun j => i - j.1) ⟨0, Nat.zero_le _⟩ ?_ ?_
     · simp only [Weak, eq_self, used_is, sc_any, sc_c, sc_pp, sc_ref, sc_row, sc_agg, sc_fn, ScL, some_imp, List.forall_mem_map, go_sem, Int.reduceBEq, Int.reduceLE, Int.reduceLT, Int.reduceNeg, Nat.reduceAdd, Nat.reduceEqDiff, Nat.reduceLT, Nat.reduceLeDiff, Nat.reduceMul, Nat.reduceSub, reduceCtorEq, ↓reduceIte]
       (try simp)
     rintro ⟨j, hj⟩
     simp only [] at hj ⊢
     by_cases hji : j < i
     · obtain ⟨y, hy⟩ : ∃ y, D[i - 1 - j]? = some y := ⟨_, List.getElem?_eq_getElem (show i - 1 - j < D.length by omega)⟩
       have hy8 := y.toNat_lt
       have g1 : decide ((i : Int) - 1 - (j : Int) ≥ 0) = true := by simp; omega
       have g2 : IntKind.i64.wrap ((p : Int) + ((i : Int) - 1 - (j : Int))) = ((p + (i - 1 - j) : Nat) : Int) := by rw [wrap64_id (by omega) (by omega)]; omega
       have g3 : (bytePV B)[p + (i - 1 - j)]? = some [.v (.int .u8 (y.toNat : Int))] := by unfold bytePV; rw [List.getElem?_map, hDg, hy]; rfl
       have g4 : (y.toNat : Int).tmod 128 = ((y.toNat % 128 : Nat) : Int) := by rw [Int.tmod_eq_emod_of_nonneg (by omega)]; omega
       have g5 : IntKind.u8.wrap ((y.toNat % 128 : Nat) : Int) = ((y.toNat % 128 : Nat) : Int) := by rw [IntKind.wrap_u8]; omega
       have g6 : IntKind.u64.wrap ((y.toNat % 128 : Nat) : Int) = ((y.toNat % 128 : Nat) : Int) := by rw [IntKind.wrap_u64]; omega
       have g7 : IntKind.u64.wrap (IntKind.u64.wrap (((foldU D i c.toNat j : Nat) : Int) * 128) + ((y.toNat % 128 : Nat) : Int)) = ((foldU D i c.toNat (j + 1) : Nat) : Int) := by
        rw [foldU, hy, IntKind.wrap_u64, IntKind.wrap_u64]
        simp only [Option.getD_some]
        omega
       have g8 : IntKind.i64.wrap ((i : Int) - 1 - (j : Int) - 1) = (i : Int) - 1 - ((j + 1 : Nat) : Int) := by rw [wrap64_id (by omega) (by omega)]; omega
       have g9 : p + (i - 1 - j) < B.length := by omega
       generalize hU1 : foldU D i c.toNat (j + 1) = U1 at g7
       generalize hU0 : foldU D i c.toNat j = U0 at g7
       refine walkBF (And.intro hbl (And.intro g1 (And.intro g2 (And.intro g3 (And.intro g4 (And.intro g5 (And.intro g6 (And.intro g7 g8)))))))) ?_
       refine .next ⟨j + 1, hji⟩ ?_ (by simp only []; omega)
       simp only [Weak, eq_self, used_is, sc_any, sc_c, sc_pp, sc_ref, sc_row, sc_agg, sc_fn, ScL, some_imp, List.forall_mem_map, go_sem, Int.reduceBEq, Int.reduceLE, Int.reduceLT, Int.reduceNeg, Nat.reduceAdd, Nat.reduceEqDiff, Nat.reduceLT, Nat.reduceLeDiff, Nat.reduceMul, Nat.reduceSub, reduceCtorEq, ↓reduceIte]
       (try rw [hU1])
     · obtain rfl : j = i := by omega
       have g1 : decide ((j : Int) - 1 - (j : Int) ≥ 0) = false := by simp; omega
       generalize foldU D j c.toNat j = U at hZ
       refine walkBF (And.intro hbl g1) ?_
       refine walkC (hZ) ?_
       refine walkBF (And.intro hw1 hwq) ?_
       refine retX Tryz.results238 ?_
       exact ⟨.c _, .c _, .c _⟩
section

def isChr (c : Int) : Bool := decide (0 ≤ c ∧ c ≤ 1114111 ∧ (c < 55296 ∨ 57344 ≤ c))
def uenc (c : Nat) : List UInt8 :=
 if c < 128 then [c.toUInt8] else if c < 2048 then [(192 + c / 64).toUInt8, (128 + c % 64).toUInt8]
 else if c < 65536 then [(224 + c / 4096).toUInt8, (128 + c / 64 % 64).toUInt8, (128 + c % 64).toUInt8]
 else [(240 + c / 262144).toUInt8, (128 + c / 4096 % 64).toUInt8, (128 + c / 64 % 64).toUInt8, (128 + c % 64).toUInt8]
theorem uenc_len (c : Nat) : (uenc c).length ≤ 4 := by
 unfold uenc
 split
 · simp
 · split
   · simp
   · split <;> simp
variable {l : List UInt8} {p : Nat}
def bN (l : List UInt8) (i : Nat) : Nat := (byteAt l i).toNat
theorem bN_lt (l : List UInt8) (i : Nat) : bN l i < 256 := (byteAt l i).toNat_lt
def UForm (l : List UInt8) (p : Nat) (n : Nat) : Prop :=
 (n = 1 ∧ p < l.length ∧ bN l p < 128) ∨
 (n = 2 ∧ p + 1 < l.length ∧ 194 ≤ bN l p ∧ bN l p < 224 ∧ 128 ≤ bN l (p + 1) ∧ bN l (p + 1) < 192) ∨
 (n = 3 ∧ p + 2 < l.length ∧ 224 ≤ bN l p ∧ bN l p < 240 ∧ 128 ≤ bN l (p + 1) ∧ bN l (p + 1) < 192 ∧ 128 ≤ bN l (p + 2) ∧ bN l (p + 2) < 192 ∧ (bN l p = 224 → 160 ≤ bN l (p + 1)) ∧ (bN l p = 237 → bN l (p + 1) ≤ 159)) ∨
 (n = 4 ∧ p + 3 < l.length ∧ 240 ≤ bN l p ∧ bN l p < 245 ∧ 128 ≤ bN l (p + 1) ∧ bN l (p + 1) < 192 ∧ 128 ≤ bN l (p + 2) ∧ bN l (p + 2) < 192 ∧ 128 ≤ bN l (p + 3) ∧ bN l (p + 3) < 192 ∧ (bN l p = 240 → 144 ≤ bN l (p + 1)) ∧ (bN l p = 244 → bN l (p + 1) ≤ 143))
def cvN (l : List UInt8) (p n : Nat) : Int :=
 if n = 1 then (bN l p : Int) else if n = 2 then ((bN l p : Int) - 192) * 64 + ((bN l (p + 1) : Int) - 128)
 else if n = 3 then ((bN l p : Int) - 224) * 4096 + ((bN l (p + 1) : Int) - 128) * 64 + ((bN l (p + 2) : Int) - 128)
 else ((bN l p : Int) - 240) * 262144 + ((bN l (p + 1) : Int) - 128) * 4096 + ((bN l (p + 2) : Int) - 128) * 64 + ((bN l (p + 3) : Int) - 128)
def wtest (l : List UInt8) (p n : Nat) : Bool := isChr (cvN l p n) && (((uenc (cvN l p n).toNat).length == n) && (uenc (cvN l p n).toNat).isPrefixOf (l.drop p))
theorem ustep_zero {i : Nat} : ustep l p i = 0 ↔ p + i < l.length ∧ 128 ≤ bN l (p + i) ∧ bN l (p + i) < 192 ∧ (i = 1 → ulo (byteAt l p) ≤ bN l (p + i) ∧ bN l (p + i) ≤ uhi (byteAt l p)) := by
 unfold ustep ucont usec bN
 by_cases h : p + i < l.length
 · rw [if_pos h]
   simp only [decide_eq_true_eq]
   split
   · rename_i h2; simp only [h, true_and, true_iff]; exact ⟨h2.1.1, h2.1.2, h2.2⟩
   · rename_i h2
     constructor
     · intro h3; omega
     · intro h3; exact absurd ⟨⟨h3.2.1, h3.2.2.1⟩, h3.2.2.2⟩ h2
 · rw [if_neg h]
   constructor
   · intro h3; omega
   · intro h3; exact absurd h3.1 h
theorem ustat_zero {k : Nat} : ustat l p (k + 1) = 0 ↔ ustat l p k = 0 ∧ ustep l p (k + 1) = 0 := by
 simp only [ustat]
 split
 · rename_i h; simp [h]
 · rename_i h; simp [h]
theorem ulo_le (c : UInt8) : (c.toNat = 224 → ulo c = 160) ∧ (c.toNat = 240 → ulo c = 144) ∧ (c.toNat ≠ 224 → c.toNat ≠ 240 → ulo c = 128) := by
 unfold ulo
 refine ⟨fun h => by rw [if_pos h], fun h => by rw [if_neg (by omega), if_pos h], fun h h' => by rw [if_neg h, if_neg h']⟩
theorem uhi_le (c : UInt8) : (c.toNat = 237 → uhi c = 159) ∧ (c.toNat = 244 → uhi c = 143) ∧ (c.toNat ≠ 237 → c.toNat ≠ 244 → uhi c = 191) := by
 unfold uhi
 refine ⟨fun h => by rw [if_pos h], fun h => by rw [if_neg (by omega), if_pos h], fun h h' => by rw [if_neg h, if_neg h']⟩
theorem ufirst_one {c : UInt8} (h : c.toNat < 128) : ufirst c = 1 := by unfold ufirst; rw [if_pos h]
theorem ufirst_two {c : UInt8} (h : 194 ≤ c.toNat) (h' : c.toNat < 224) : ufirst c = 2 := by unfold ufirst; rw [if_neg (by omega), if_neg (by omega), if_pos h']
theorem ufirst_three {c : UInt8} (h : 224 ≤ c.toNat) (h' : c.toNat < 240) : ufirst c = 3 := by unfold ufirst; rw [if_neg (by omega), if_neg (by omega), if_neg (by omega), if_pos h']
theorem ufirst_four {c : UInt8} (h : 240 ≤ c.toNat) (h' : c.toNat < 245) : ufirst c = 4 := by unfold ufirst; rw [if_neg (by omega), if_neg (by omega), if_neg (by omega), if_neg (by omega), if_pos h']
theorem ufirst_none {c : UInt8} (h : (128 ≤ c.toNat ∧ c.toNat < 194) ∨ 245 ≤ c.toNat) : ufirst c = 0 := by
 unfold ufirst
 rcases h with h | h
 · rw [if_neg (by omega), if_pos (by omega)]
 · rw [if_neg (by omega), if_neg (by omega), if_neg (by omega), if_neg (by omega), if_neg (by omega)]
theorem form_uerr {n : Nat} (h : UForm l p n) : uerr l p = 0 ∧ ulen l p = n := by
 have hlo := ulo_le (byteAt l p)
 have hhi := uhi_le (byteAt l p)
 unfold UForm at h
 unfold uerr ulen
 rcases h with ⟨rfl, h0, h1⟩ | ⟨rfl, h0, h1, h2, h3, h4⟩ | ⟨rfl, h0, h1, h2, h3, h4, h5, h6, h7, h8⟩ | ⟨rfl, h0, h1, h2, h3, h4, h5, h6, h7, h8, h9, h10⟩
 · rw [if_pos h0, ufirst_one h1]
   exact ⟨rfl, rfl⟩
 · rw [if_pos (by omega), ufirst_two h1 h2]
   refine ⟨?_, rfl⟩
   rw [if_neg (by decide)]
   have e1 : ustep l p 1 = 0 := ustep_zero.2 ⟨h0, h3, h4, fun _ => by unfold bN at *; rw [hlo.2.2 (by omega) (by omega), hhi.2.2 (by omega) (by omega)]; omega⟩
   exact ustat_zero.2 ⟨rfl, e1⟩
 · rw [if_pos (by omega), ufirst_three h1 h2]
   refine ⟨?_, rfl⟩
   rw [if_neg (by decide)]
   have e1 : ustep l p 1 = 0 := ustep_zero.2 ⟨by omega, h3, h4, fun _ => by
    unfold bN at *
    constructor
    · by_cases q : (byteAt l p).toNat = 224
      · rw [hlo.1 q]; exact h7 q
      · rw [hlo.2.2 q (by omega)]; exact h3
    · by_cases q : (byteAt l p).toNat = 237
      · rw [hhi.1 q]; exact h8 q
      · rw [hhi.2.2 q (by omega)]; omega⟩
   have e2 : ustep l p 2 = 0 := ustep_zero.2 ⟨by omega, h5, h6, fun q => by omega⟩
   exact ustat_zero.2 ⟨ustat_zero.2 ⟨rfl, e1⟩, e2⟩
 · rw [if_pos (by omega), ufirst_four h1 h2]
   refine ⟨?_, rfl⟩
   rw [if_neg (by decide)]
   have e1 : ustep l p 1 = 0 := ustep_zero.2 ⟨by omega, h3, h4, fun _ => by
    unfold bN at *
    constructor
    · by_cases q : (byteAt l p).toNat = 240
      · rw [hlo.2.1 q]; exact h9 q
      · rw [hlo.2.2 (by omega) q]; exact h3
    · by_cases q : (byteAt l p).toNat = 244
      · rw [hhi.2.1 q]; exact h10 q
      · rw [hhi.2.2 (by omega) q]; omega⟩
   have e2 : ustep l p 2 = 0 := ustep_zero.2 ⟨by omega, h5, h6, fun q => by omega⟩
   have e3 : ustep l p 3 = 0 := ustep_zero.2 ⟨by omega, h7, h8, fun q => by omega⟩
   exact ustat_zero.2 ⟨ustat_zero.2 ⟨ustat_zero.2 ⟨rfl, e1⟩, e2⟩, e3⟩
theorem uerr_form (h : uerr l p = 0) : UForm l p (ulen l p) := by
 have hlo := ulo_le (byteAt l p)
 have hhi := uhi_le (byteAt l p)
 unfold uerr at h
 unfold ulen UForm
 by_cases hp : p < l.length
 · rw [if_pos hp] at h
   have hb := bN_lt l p
   unfold bN at hb
   have hr : (byteAt l p).toNat < 128 ∨ ((128 ≤ (byteAt l p).toNat ∧ (byteAt l p).toNat < 194) ∨ 245 ≤ (byteAt l p).toNat) ∨ (194 ≤ (byteAt l p).toNat ∧ (byteAt l p).toNat < 224) ∨ (224 ≤ (byteAt l p).toNat ∧ (byteAt l p).toNat < 240) ∨ (240 ≤ (byteAt l p).toNat ∧ (byteAt l p).toNat < 245) := by omega
   rcases hr with hr | hr | hr | hr | hr
   · rw [ufirst_one hr]; exact .inl ⟨rfl, hp, hr⟩
   · rw [ufirst_none hr, if_pos rfl] at h; omega
   · rw [ufirst_two hr.1 hr.2, if_neg (by decide)] at h
     rw [ufirst_two hr.1 hr.2]
     have e1 := ustep_zero.1 (ustat_zero.1 h).2
     exact .inr (.inl ⟨rfl, e1.1, hr.1, hr.2, e1.2.1, e1.2.2.1⟩)
   · rw [ufirst_three hr.1 hr.2, if_neg (by decide)] at h
     rw [ufirst_three hr.1 hr.2]
     have h2 := ustat_zero.1 h
     have e2 := ustep_zero.1 h2.2
     have e1 := ustep_zero.1 (ustat_zero.1 h2.1).2
     have e1' := e1.2.2.2 rfl
     refine .inr (.inr (.inl ⟨rfl, e2.1, hr.1, hr.2, e1.2.1, e1.2.2.1, e2.2.1, e2.2.2.1, fun q => ?_, fun q => ?_⟩))
     · rw [hlo.1 q] at e1'; exact e1'.1
     · rw [hhi.1 q] at e1'; exact e1'.2
   · rw [ufirst_four hr.1 hr.2, if_neg (by decide)] at h
     rw [ufirst_four hr.1 hr.2]
     have h3 := ustat_zero.1 h
     have e3 := ustep_zero.1 h3.2
     have h2 := ustat_zero.1 h3.1
     have e2 := ustep_zero.1 h2.2
     have e1 := ustep_zero.1 (ustat_zero.1 h2.1).2
     have e1' := e1.2.2.2 rfl
     refine .inr (.inr (.inr ⟨rfl, e3.1, hr.1, hr.2, e1.2.1, e1.2.2.1, e2.2.1, e2.2.2.1, e3.2.1, e3.2.2.1, fun q => ?_, fun q => ?_⟩))
     · rw [hlo.2.1 q] at e1'; exact e1'.1
     · rw [hhi.2.1 q] at e1'; exact e1'.2
 · rw [if_neg hp] at h; omega
theorem drop_cons {l : List UInt8} {p : Nat} (h : p < l.length) : l.drop p = byteAt l p :: l.drop (p + 1) := by
 rw [List.drop_eq_getElem_cons h]
 unfold byteAt
 rw [List.getElem?_eq_getElem h]
 rfl
theorem pre_iff {l : List UInt8} : ∀ (xs : List UInt8) (p : Nat), xs ≠ [] → (xs.isPrefixOf (l.drop p) = true ↔ p + xs.length ≤ l.length ∧ ∀ i, i < xs.length → byteAt l (p + i) = xs[i]?.getD 0) := by
 intro xs
 induction xs with
 | nil => intro p h; exact absurd rfl h
 | cons x xs ih =>
   intro p _
   by_cases hp : p < l.length
   · rw [drop_cons hp, List.isPrefixOf_cons_cons, Bool.and_eq_true, beq_iff_eq]
     by_cases hx : xs = []
     · subst hx
       simp
       constructor
       · intro h; exact ⟨by omega, h.symm⟩
       · intro h; exact h.2.symm
     · rw [ih (p + 1) hx]
       constructor
       · rintro ⟨h1, h2, h3⟩
         refine ⟨by simp; omega, fun i hi => ?_⟩
         cases i with
         | zero => simpa using h1.symm
         | succ i =>
           have := h3 i (by simp at hi; omega)
           rw [show p + (i + 1) = p + 1 + i from by omega, this]
           simp
       · rintro ⟨h1, h2⟩
         refine ⟨by simpa using (h2 0 (by simp)).symm, by simp at h1; omega, fun i hi => ?_⟩
         have := h2 (i + 1) (by simp; omega)
         rw [show p + 1 + i = p + (i + 1) from by omega, this]
         simp
   · rw [List.drop_eq_nil_of_le (by omega)]
     constructor
     · intro h; simp at h
     · intro h; simp at h; omega
theorem u8_eq {c : UInt8} {n : Nat} (h : c.toNat = n) (hn : n < 256) : c = n.toUInt8 := by
 apply UInt8.toNat_inj.1
 simp
 omega
theorem u8_ne {c : UInt8} {n : Nat} (h : c = n.toUInt8) (hn : n < 256) : c.toNat = n := by
 rw [h]
 simp
 omega
theorem isChr_iff {c : Int} : isChr c = true ↔ 0 ≤ c ∧ c ≤ 1114111 ∧ (c < 55296 ∨ 57344 ≤ c) := by unfold isChr; simp
theorem form_test {n : Nat} (h : UForm l p n) : wtest l p n = true := by
 unfold UForm at h
 unfold wtest
 rw [Bool.and_eq_true, Bool.and_eq_true, isChr_iff, beq_iff_eq]
 rcases h with ⟨rfl, h0, h1⟩ | ⟨rfl, h0, h1, h2, h3, h4⟩ | ⟨rfl, h0, h1, h2, h3, h4, h5, h6, h7, h8⟩ | ⟨rfl, h0, h1, h2, h3, h4, h5, h6, h7, h8, h9, h10⟩
 · have hc : cvN l p 1 = (bN l p : Int) := rfl
   obtain ⟨c, e⟩ : ∃ c, c = (cvN l p 1).toNat := ⟨_, rfl⟩
   have hu : uenc c = [c.toUInt8] := by unfold uenc; rw [if_pos (by omega)]
   rw [← e, hu]
   refine ⟨by omega, rfl, (pre_iff _ p (by simp)).2 ⟨by simp; omega, fun i hi => ?_⟩⟩
   simp at hi
   subst hi
   exact u8_eq (by unfold bN at *; simp; omega) (by omega)
 · have hc : cvN l p 2 = ((bN l p : Int) - 192) * 64 + ((bN l (p + 1) : Int) - 128) := rfl
   obtain ⟨c, e⟩ : ∃ c, c = (cvN l p 2).toNat := ⟨_, rfl⟩
   have hu : uenc c = [(192 + c / 64).toUInt8, (128 + c % 64).toUInt8] := by unfold uenc; rw [if_neg (by omega), if_pos (by omega)]
   rw [← e, hu]
   refine ⟨by omega, rfl, (pre_iff _ p (by simp)).2 ⟨by simp; omega, fun i hi => ?_⟩⟩
   simp at hi
   have hi : i = 0 ∨ i = 1 := by omega
   rcases hi with rfl | rfl
   · exact u8_eq (by unfold bN at *; simp; omega) (by omega)
   · exact u8_eq (by unfold bN at *; omega) (by omega)
 · have hc : cvN l p 3 = ((bN l p : Int) - 224) * 4096 + ((bN l (p + 1) : Int) - 128) * 64 + ((bN l (p + 2) : Int) - 128) := rfl
   obtain ⟨c, e⟩ : ∃ c, c = (cvN l p 3).toNat := ⟨_, rfl⟩
   have hu : uenc c = [(224 + c / 4096).toUInt8, (128 + c / 64 % 64).toUInt8, (128 + c % 64).toUInt8] := by unfold uenc; rw [if_neg (by omega), if_neg (by omega), if_pos (by omega)]
   rw [← e, hu]
   refine ⟨by omega, rfl, (pre_iff _ p (by simp)).2 ⟨by simp; omega, fun i hi => ?_⟩⟩
   simp at hi
   have hi : i = 0 ∨ i = 1 ∨ i = 2 := by omega
   rcases hi with rfl | rfl | rfl
   · exact u8_eq (by unfold bN at *; simp; omega) (by omega)
   · exact u8_eq (by unfold bN at *; omega) (by omega)
   · exact u8_eq (by unfold bN at *; omega) (by omega)
 · have hc : cvN l p 4 = ((bN l p : Int) - 240) * 262144 + ((bN l (p + 1) : Int) - 128) * 4096 + ((bN l (p + 2) : Int) - 128) * 64 + ((bN l (p + 3) : Int) - 128) := rfl
   obtain ⟨c, e⟩ : ∃ c, c = (cvN l p 4).toNat := ⟨_, rfl⟩
   have hu : uenc c = [(240 + c / 262144).toUInt8, (128 + c / 4096 % 64).toUInt8, (128 + c / 64 % 64).toUInt8, (128 + c % 64).toUInt8] := by unfold uenc; rw [if_neg (by omega), if_neg (by omega), if_neg (by omega)]
   rw [← e, hu]
   refine ⟨by omega, rfl, (pre_iff _ p (by simp)).2 ⟨by simp; omega, fun i hi => ?_⟩⟩
   simp at hi
   have hi : i = 0 ∨ i = 1 ∨ i = 2 ∨ i = 3 := by omega
   rcases hi with rfl | rfl | rfl | rfl
   · exact u8_eq (by unfold bN at *; simp; omega) (by omega)
   · exact u8_eq (by unfold bN at *; omega) (by omega)
   · exact u8_eq (by unfold bN at *; omega) (by omega)
   · exact u8_eq (by unfold bN at *; omega) (by omega)
theorem uenc_cases (c : Nat) : (c < 128 ∧ uenc c = [c.toUInt8]) ∨ (128 ≤ c ∧ c < 2048 ∧ uenc c = [(192 + c / 64).toUInt8, (128 + c % 64).toUInt8]) ∨
  (2048 ≤ c ∧ c < 65536 ∧ uenc c = [(224 + c / 4096).toUInt8, (128 + c / 64 % 64).toUInt8, (128 + c % 64).toUInt8]) ∨ (65536 ≤ c ∧ uenc c = [(240 + c / 262144).toUInt8, (128 + c / 4096 % 64).toUInt8, (128 + c / 64 % 64).toUInt8, (128 + c % 64).toUInt8]) := by
 unfold uenc
 by_cases h1 : c < 128
 · exact .inl ⟨h1, if_pos h1⟩
 by_cases h2 : c < 2048
 · exact .inr (.inl ⟨by omega, h2, by rw [if_neg h1, if_pos h2]⟩)
 by_cases h3 : c < 65536
 · exact .inr (.inr (.inl ⟨by omega, h3, by rw [if_neg h1, if_neg h2, if_pos h3]⟩))
 · exact .inr (.inr (.inr ⟨by omega, by rw [if_neg h1, if_neg h2, if_neg h3]⟩))
theorem enc_form {c : Nat} (hc : isChr (c : Int) = true) (h : (uenc c).isPrefixOf (l.drop p) = true) : UForm l p (uenc c).length := by
 have hch := isChr_iff.1 hc
 unfold UForm
 rcases uenc_cases c with ⟨h1, e⟩ | ⟨h1, h2, e⟩ | ⟨h1, h2, e⟩ | ⟨h1, e⟩
 · rw [e] at h ⊢
   obtain ⟨q1, q2⟩ := (pre_iff _ p (by simp)).1 h
   have b0 := u8_ne (q2 0 (by simp)) (by omega)
   simp at q1 b0
   refine .inl ⟨rfl, by omega, by unfold bN; omega⟩
 · rw [e] at h ⊢
   obtain ⟨q1, q2⟩ := (pre_iff _ p (by simp)).1 h
   have b0 := u8_ne (q2 0 (by simp)) (by omega)
   have b1 := u8_ne (q2 1 (by simp)) (by omega)
   simp only [Nat.add_zero, List.length_cons, List.length_nil] at q1 b0
   refine .inr (.inl ⟨rfl, by omega, ?_⟩)
   unfold bN
   omega
 · rw [e] at h ⊢
   obtain ⟨q1, q2⟩ := (pre_iff _ p (by simp)).1 h
   have b0 := u8_ne (q2 0 (by simp)) (by omega)
   have b1 := u8_ne (q2 1 (by simp)) (by omega)
   have b2 := u8_ne (q2 2 (by simp)) (by omega)
   simp only [Nat.add_zero, List.length_cons, List.length_nil] at q1 b0
   refine .inr (.inr (.inl ⟨rfl, by omega, ?_⟩))
   unfold bN
   omega
 · rw [e] at h ⊢
   obtain ⟨q1, q2⟩ := (pre_iff _ p (by simp)).1 h
   have b0 := u8_ne (q2 0 (by simp)) (by omega)
   have b1 := u8_ne (q2 1 (by simp)) (by omega)
   have b2 := u8_ne (q2 2 (by simp)) (by omega)
   have b3 := u8_ne (q2 3 (by simp)) (by omega)
   simp only [Nat.add_zero, List.length_cons, List.length_nil] at q1 b0
   refine .inr (.inr (.inr ⟨rfl, by omega, ?_⟩))
   unfold bN
   omega
theorem test_form {n : Nat} (h : wtest l p n = true) : UForm l p n := by
 unfold wtest at h
 rw [Bool.and_eq_true, Bool.and_eq_true, beq_iff_eq] at h
 obtain ⟨h1, h2, h3⟩ := h
 have h0 := isChr_iff.1 h1
 have := enc_form (l := l) (p := p) (c := (cvN l p n).toNat) (by rw [show (((cvN l p n).toNat : Nat) : Int) = cvN l p n from by omega]; exact h1) h3
 rwa [h2] at this
def wholeV (l : List UInt8) (p : Nat) : Int := if uerr l p = 0 then cvN l p (ulen l p) else -1
theorem wtest_n {n : Nat} (h : wtest l p n = true) : wholeV l p = cvN l p n := by
 obtain ⟨h1, h2⟩ := form_uerr (test_form h)
 unfold wholeV
 rw [if_pos h1, h2]
theorem wtest_none (h1 : wtest l p 1 = false) (h2 : wtest l p 2 = false) (h3 : wtest l p 3 = false) (h4 : wtest l p 4 = false) : wholeV l p = -1 := by
 unfold wholeV
 rw [if_neg]
 intro he
 have hf := uerr_form he
 have ht := form_test hf
 have hn : ulen l p = 1 ∨ ulen l p = 2 ∨ ulen l p = 3 ∨ ulen l p = 4 := by unfold UForm at hf; omega
 rcases hn with hn | hn | hn | hn <;> rw [hn] at ht <;> simp_all
theorem wtest_long {n : Nat} (h : l.length < p + n) : wtest l p n = false ∨ n = 0 := by
 by_cases h0 : n = 0
 · exact .inr h0
 · left
   cases ht : wtest l p n with
   | false => rfl
   | true =>
     have := test_form ht
     unfold UForm at this
     omega
theorem wholeV_len (h : 0 ≤ wholeV l p) : uerr l p = 0 ∧ isChr (wholeV l p) = true ∧ (uenc (wholeV l p).toNat).length = ulen l p := by
 unfold wholeV at h ⊢
 by_cases he : uerr l p = 0
 · rw [if_pos he] at h ⊢
   have ht := form_test (uerr_form he)
   unfold wtest at ht
   rw [Bool.and_eq_true, Bool.and_eq_true, beq_iff_eq] at ht
   exact ⟨he, ht.1, ht.2.1⟩
 · rw [if_neg he] at h
   omega
theorem notest {m : List UInt8} {n : Nat} (h : ∀ k, 1 ≤ k → k < n → wtest m 0 k = false) (hn : wtest m 0 n = false) : ∀ k, 1 ≤ k → k < n + 1 → wtest m 0 k = false := by
 intro k h1 h2
 rcases Nat.lt_or_ge k n with h3 | h3
 · exact h k h1 h3
 · obtain rfl : k = n := by omega
   exact hn
theorem byteAt_drop (l : List UInt8) (p i : Nat) : byteAt (l.drop p) i = byteAt l (p + i) := by
 unfold byteAt
 rw [List.getElem?_drop]
theorem bN_drop (l : List UInt8) (p i : Nat) : bN (l.drop p) i = bN l (p + i) := by unfold bN; rw [byteAt_drop]
theorem form_drop {l : List UInt8} {p n : Nat} : UForm (l.drop p) 0 n ↔ UForm l p n := by
 have e : ∀ k, (k < l.length - p) = (p + k < l.length) := fun k => propext (by omega)
 unfold UForm
 simp only [bN_drop, List.length_drop, Nat.zero_add, Nat.add_zero, e]
theorem cvN_drop (l : List UInt8) (p n : Nat) : cvN (l.drop p) 0 n = cvN l p n := by
 unfold cvN
 simp only [bN_drop, Nat.zero_add, Nat.add_zero]
theorem wholeV_drop (l : List UInt8) (p : Nat) : wholeV (l.drop p) 0 = wholeV l p := by
 by_cases h : uerr l p = 0
 · have hf := uerr_form h
   have h2 := form_uerr (form_drop.2 hf)
   unfold wholeV
   rw [if_pos h, if_pos h2.1, h2.2, cvN_drop]
 · have h2 : uerr (l.drop p) 0 ≠ 0 := fun e => h (form_uerr (form_drop.1 (uerr_form e))).1
   unfold wholeV
   rw [if_neg h, if_neg h2]
def fillL (j : Nat) : List UInt8 := if j = 0 then [128, 128, 128] else if j = 1 then [191, 191, 191] else if j = 2 then [160, 128, 128] else if j = 3 then [144, 128, 128] else if j = 4 then [143, 191, 191] else [159, 191, 191]
theorem fillL_len (j : Nat) : (fillL j).length = 3 := by
 unfold fillL
 repeat' split
 all_goals rfl
end
end
end Go.Proofs.YtepneflbhpidbaaGreatDoor
