/- strings.IndexByte; jlex.Quote, as contracts. -/
import Derived.Test.YticfioblapjkmaaGreatQ0
import Derived.Test.YticfioblapjkmaaGreatNu
import Derived.Test.YticfioblapjkmaaGreatAt
import Derived.Test.YticfioblapjkmaaGreatShelf
namespace Go.Proofs.YticfioblapjkmaaGreat
open Go.RowKit
set_option linter.unusedVariables false
set_option linter.unusedSimpArgs false
attribute [local go_sem] opx opE ev okx gcond bnd okO AV.get AV.okb cAV upd_at putd_some putd_none wrs_nil wrs_cons look_nil look_cons st argT_at bpick_and bpick_or bpick_true bpick_false binV binI binS binVOk binOk isShift binSOk unV unVOk loadV loadP cellsA zeroA Blkd.len setE grown moreA moreR moreOk eqRes pv fillA fillE putSeg AV.cellish AV.pureL AV.pureB lentL_is ex_some AV.ren AV.renL renL_c Blkd.ren rho wrM renN lentOk rhoE keepM endOk tyA_2 tyA_3 tyA_4 tyA_5 tyA_6 tyA_7 tyA_8 tyA_9 tyA_10 tyA_11 tyA_12 tyA_13 tyA_14 tyA_15 tyA_16 tyA_17 tyA_18 tyA_19 tyA_21 tyA_22 tyA_23 tyA_24 tyA_25 tyA_28 tyA_29 tyA_38 tyA_39 tyA_40 tyA_41 tyA_42 tyA_43 tyA_49 tyA_50 tyA_51 tyA_52 tyA_53 tyA_57 tyA_62 tyA_76 tyA_87 tyA_88 tyA_89 tyA_100 tyA_101 tyA_102 tyA_106 tyA_119 tyA_128 tyA_130 tyA_132 tyA_137 tyA_141 tyA_146 tyA_149 tyA_150 tyA_151 tyA_152 tyA_153 tyA_154 tyA_155 tyA_157 tyA_158 Option.map_some Option.map_none Option.getD_some Option.getD_none Option.bind_some Option.bind_none List.getElem?_cons_zero List.getElem?_cons_succ List.getElem?_nil List.getElem?_toArray List.length_cons List.length_nil List.length_map List.forall_mem_map List.map_cons List.map_nil List.drop_zero List.drop_succ_cons List.drop_nil List.take_zero List.take_succ_cons List.take_nil List.mem_cons List.not_mem_nil or_false forall_eq_or_imp forall_eq List.set_cons_zero List.set_cons_succ List.cons_append List.nil_append List.append_nil List.foldl_cons List.foldl_nil List.replicate_succ List.replicate_zero List.all_cons List.all_nil if_true if_false Bool.false_eq_true ne_eq not_false_eq_true not_true_eq_false true_and and_true and_self true_implies imp_self implies_true forall_const beq_self_eq_true Bool.and_true Bool.true_and Bool.and_false Bool.false_and Bool.or_true Bool.true_or Bool.or_false Bool.false_or Bool.not_true Bool.not_false Bool.not_eq_eq_eq_not intKindOf Value.oneCell' Int.toNat_natCast beq_true beq_false Bool.not_eq_true false_implies false_or true_or or_true Nat.zero_add Nat.add_zero decide_true decide_false Int.cast_ofNat_Int Int.toNat_zero Int.toNat_one eq_self

/-- A contract of the shelf, of plain values alone. -/
theorem told_plain {P : Program} {f : FuncId} {xs : List Value} {r : Value} (hE : Enters P f) (hr : r.oneCell' = true) (h : ∀ W : World, Calls P f xs.toArray W fun e w' => e = .returned r ∧ w' = W) : Told P f (xs.map fun x => .c (.v x)) (.c (.v r)) := by
  refine ⟨hE, fun W ro vs hro hgk hl => ?_⟩
  have hvs : vs = xs := by
    apply List.ext_getElem?
    intro k
    by_cases hk : k < xs.length
    · have hkv : k < vs.length := by rw [hl.1]; simpa using hk
      have := hl.2 k _ _ (by rw [List.getElem?_map, List.getElem?_eq_getElem hk]; rfl) (List.getElem?_eq_getElem hkv)
      rw [List.getElem?_eq_getElem hkv, rep_prim this, List.getElem?_eq_getElem hk]
    · rw [List.getElem?_eq_none (by rw [hl.1]; simpa using hk), List.getElem?_eq_none (by omega)]
  subst hvs
  refine (h W).mono ?_
  rintro e W' ⟨rfl, rfl⟩
  exact ⟨r, ro, rfl, Below.refl _ _, fun b h => h, fun b h => ⟨.inl h, hro b h⟩, .c (.v hr), .c _⟩
theorem indexByte_told (s : ByteArray) (c : Int) : Told Tryz.prog 41 [.c (.v (.string s)), .c (.v (.int .u8 c))] (.c (.v (.int .i64 (Lib.indexByte s.data.toList c.toNat.toUInt8)))) :=
  told_plain (xs := [.string s, .int .u8 c]) ent_41 rfl fun W => Tryz.strings_IndexByte s c W
theorem and15 : ∀ y : Nat, y < 256 → IntKind.u8.wrap ((BitVec.ofInt IntKind.u8.bits ((y : Nat) : Int) &&& BitVec.ofInt IntKind.u8.bits 15).toNat : Int) = ((y % 16 : Nat) : Int) := by decide +kernel
theorem shr4 (y : Nat) : ((y : Nat) : Int).fdiv (2 ^ min (4 : Int).toNat IntKind.u8.bits) = ((y / 16 : Nat) : Int) := by
  rw [show min (4 : Int).toNat IntKind.u8.bits = 4 from rfl, Int.fdiv_eq_ediv_of_nonneg _ (by decide)]
  rfl
set_option maxRecDepth 100000 in
set_option maxHeartbeats 800000 in
theorem quote_told (l s : List UInt8) (hl : l.length ≤ 1000000000) (hs : s.length ≤ 1000000000) :
    ToldM Tryz.prog 25 [.row 1000000 l.length, .c (.v (.string (str s)))] [bB l] [some (bB (l ++ mQuote s))] (.row 1000000 (l ++ mQuote s).length) := by
  have hql := quote_len s
  unfold bB
  refine VC.toldM ent_25 [] Tryz.func25 rfl Tryz.ntmps25 (by simp) (by simp only [ bA_len, bA_sc, ScM, zOk, inL, eq_self, used_is, sc_any, sc_c, sc_pp, sc_ref, sc_row, sc_agg, sc_tup, sc_fn, ScL, some_imp, List.forall_mem_map, Nat.le_refl, go_sem, Int.reduceBEq, Int.reduceLE, Int.reduceLT, Int.reduceNeg, Nat.reduceAdd, Nat.reduceEqDiff, Nat.reduceLT, Nat.reduceLeDiff, Nat.reduceMul, Nat.reduceSub, reduceCtorEq, ↓reduceIte]) (by simp only [ bA_len, bA_sc, ScM, zOk, inL, eq_self, used_is, sc_any, sc_c, sc_pp, sc_ref, sc_row, sc_agg, sc_tup, sc_fn, ScL, some_imp, List.forall_mem_map, Nat.le_refl, go_sem, Int.reduceBEq, Int.reduceLE, Int.reduceLT, Int.reduceNeg, Nat.reduceAdd, Nat.reduceEqDiff, Nat.reduceLT, Nat.reduceLeDiff, Nat.reduceMul, Nat.reduceSub, reduceCtorEq, ↓reduceIte]) (by simp only [ bA_len, bA_sc, ScM, zOk, inL, eq_self, used_is, sc_any, sc_c, sc_pp, sc_ref, sc_row, sc_agg, sc_tup, sc_fn, ScL, some_imp, List.forall_mem_map, Nat.le_refl, go_sem, Int.reduceBEq, Int.reduceLE, Int.reduceLT, Int.reduceNeg, Nat.reduceAdd, Nat.reduceEqDiff, Nat.reduceLT, Nat.reduceLeDiff, Nat.reduceMul, Nat.reduceSub, reduceCtorEq, ↓reduceIte]) (by simp only [ bA_len, bA_sc, ScM, zOk, inL, eq_self, used_is, sc_any, sc_c, sc_pp, sc_ref, sc_row, sc_agg, sc_tup, sc_fn, ScL, some_imp, List.forall_mem_map, Nat.le_refl, go_sem, Int.reduceBEq, Int.reduceLE, Int.reduceLT, Int.reduceNeg, Nat.reduceAdd, Nat.reduceEqDiff, Nat.reduceLT, Nat.reduceLeDiff, Nat.reduceMul, Nat.reduceSub, reduceCtorEq, ↓reduceIte]) (by simp) fun hb hbL => ?_
  clear hb hbL
  refine walkGF (And.intro @bA_len @str_size) ?_
  refine VC.loop (ι := {q : Nat × List UInt8 // q.1 ≤ s.length ∧ q.2 = l ++ 34 :: (s.take q.1).flatMap qByte ∧ q.2.length ≤ l.length + 1 + 6 * q.1}) (fun q => [(0, .row 1000000 q.1.2.length), (1, .c (.v (.string (str s)))), (12, .c (.v (.int .i64 (s.length : Int)))), (13, .c (.v (.int .i64 (q.1.1 : Int))))])
    (fun q => [(1000000, ⟨true, 5, 1, bA q.1.2⟩)]) 200 (fun q => s.length - q.1.1) ⟨(0, l ++ [34]), Nat.zero_le _, by simp, by simp⟩ ?_ ?_
  · simp only [bA_len, bA_sc, Weak, eq_self, used_is, sc_any, sc_c, sc_pp, sc_ref, sc_row, sc_agg, sc_fn, ScL, some_imp, List.forall_mem_map, go_sem, Int.reduceBEq, Int.reduceLE, Int.reduceLT, Int.reduceNeg, Nat.reduceAdd, Nat.reduceEqDiff, Nat.reduceLT, Nat.reduceLeDiff, Nat.reduceMul, Nat.reduceSub, reduceCtorEq, ↓reduceIte]
    simp [bA]
  rintro ⟨⟨i, c⟩, hi, hcc, hcl⟩
  simp only [] at hi hcc hcl ⊢
  refine walkGF (@bA_len) ?_
  refine VC.cond (by rfl) (by trivial) (fun hc => ?_) (fun hc => ?_)
  · have hlt : i < s.length := by simp at hc; omega
    obtain ⟨x, hx⟩ : ∃ x, s[i]? = some x := ⟨s[i], List.getElem?_eq_getElem hlt⟩
    obtain ⟨y, hy⟩ : ∃ y, y = x.toNat := ⟨_, rfl⟩
    have hxy : x = y.toUInt8 := by rw [hy]; simp
    have hy256 : y < 256 := by rw [hy]; exact x.toNat_lt
    have hq := q_cases y hy256
    have hI := indexByte_told ⟨#[34, 92, 47, 8, 12, 10, 13, 9]⟩ (y : Int)
    rw [show Lib.indexByte (⟨#[34, 92, 47, 8, 12, 10, 13, 9]⟩ : ByteArray).data.toList (y : Int).toNat.toUInt8 = qIdx y from rfl] at hI
    have hw : IntKind.i64.wrap ((i : Int) + 1) = (i : Int) + 1 := wrap64_id (by omega) (by omega)
    have hn : ∀ p, qByte y.toUInt8 = p → (c ++ p) = l ++ 34 :: (s.take (i + 1)).flatMap qByte ∧ (c ++ p).length ≤ l.length + 1 + 6 * (i + 1) := by
      intro p hp
      have hqx := qByte_len y.toUInt8
      rw [hp] at hqx
      refine ⟨?_, by rw [List.length_append]; omega⟩
      rw [take_next hx, hcc, hxy, hp]
      simp
    refine walkGF (And.intro @bA_len (And.intro @str_size (And.intro @str_dl (And.intro hx hy.symm)))) ?_
    refine walkCF (hy.symm) (hI) ?_
    refine walkGF (@bA_len) ?_
    refine VC.cond (by rfl) (by trivial) (fun h1 => ?_) (fun h1 => ?_)
    · rw [if_pos (by simp at h1; omega)] at hq
      obtain ⟨hk8, hqb⟩ := hq
      have hk0 : 0 ≤ qIdx y := by simp at h1; omega
      obtain ⟨e1, e2⟩ := hn _ hqb
      have hkn : (qIdx y).toNat < 8 := by omega
      have z1 : (⟨#[34, 92, 47, 98, 102, 110, 114, 116]⟩ : ByteArray).size = 8 := rfl
      have z2 : (((⟨#[34, 92, 47, 98, 102, 110, 114, 116]⟩ : ByteArray).data.toList)[(qIdx y).toNat]?).getD 0 = qEsc (qIdx y) := rfl
      refine walkGF (And.intro @bA_len (And.intro z1 (And.intro z2 hw))) ?_
      refine .next ⟨(i + 1, c ++ [92, qEsc (qIdx y)]), by simp only []; omega, e1, e2⟩ ?_ (by simp only []; omega)
      simp only [bA_len, bA_sc, Weak, eq_self, used_is, sc_any, sc_c, sc_pp, sc_ref, sc_row, sc_agg, sc_fn, ScL, some_imp, List.forall_mem_map, go_sem, Int.reduceBEq, Int.reduceLE, Int.reduceLT, Int.reduceNeg, Nat.reduceAdd, Nat.reduceEqDiff, Nat.reduceLT, Nat.reduceLeDiff, Nat.reduceMul, Nat.reduceSub, reduceCtorEq, ↓reduceIte]
      exact ⟨⟨by simp, cI (by omega)⟩, by simp [bA], Nat.le_refl _⟩
    · rw [if_neg (by simp at h1; omega)] at hq
      refine walkGF (@bA_len) ?_
      refine VC.cond (by rfl) (by trivial) (fun h2 => ?_) (fun h2 => ?_)
      · rw [if_pos (by simp at h2; omega)] at hq
        obtain ⟨e1, e2⟩ := hn _ hq
        have z1 : (⟨#[48, 49, 50, 51, 52, 53, 54, 55, 56, 57, 97, 98, 99, 100, 101, 102]⟩ : ByteArray).size = 16 := rfl
        have z2 : ∀ k : Nat, (((⟨#[48, 49, 50, 51, 52, 53, 54, 55, 56, 57, 97, 98, 99, 100, 101, 102]⟩ : ByteArray).data.toList)[k]?).getD 0 = qHex k := fun _ => rfl
        have z3 := and15 y hy256
        have z4 := shr4 y
        (try simp only [go_sem, Int.reduceBEq, Int.reduceLE, Int.reduceLT, Int.reduceNeg, Nat.reduceAdd, Nat.reduceEqDiff, Nat.reduceLT, Nat.reduceLeDiff, Nat.reduceMul, Nat.reduceSub, reduceCtorEq, ↓reduceIte] at z3)
        (try simp only [go_sem, Int.reduceBEq, Int.reduceLE, Int.reduceLT, Int.reduceNeg, Nat.reduceAdd, Nat.reduceEqDiff, Nat.reduceLT, Nat.reduceLeDiff, Nat.reduceMul, Nat.reduceSub, reduceCtorEq, ↓reduceIte] at z4)
        refine walkGF (And.intro @bA_len (And.intro z1 (And.intro z2 (And.intro z3 (And.intro z4 hw))))) ?_
        refine .next ⟨(i + 1, c ++ [92, 117, 48, 48, qHex (y / 16), qHex (y % 16)]), by simp only []; omega, e1, e2⟩ ?_ (by simp only []; omega)
        simp only [bA_len, bA_sc, Weak, eq_self, used_is, sc_any, sc_c, sc_pp, sc_ref, sc_row, sc_agg, sc_fn, ScL, some_imp, List.forall_mem_map, go_sem, Int.reduceBEq, Int.reduceLE, Int.reduceLT, Int.reduceNeg, Nat.reduceAdd, Nat.reduceEqDiff, Nat.reduceLT, Nat.reduceLeDiff, Nat.reduceMul, Nat.reduceSub, reduceCtorEq, ↓reduceIte]
        exact ⟨⟨by simp, cI (by omega)⟩, by simp [bA], Nat.le_refl _⟩
      · rw [if_neg (by simp at h2; omega)] at hq
        obtain ⟨e1, e2⟩ := hn _ hq
        refine walkGF (And.intro @bA_len hw) ?_
        refine .next ⟨(i + 1, c ++ [y.toUInt8]), by simp only []; omega, e1, e2⟩ ?_ (by simp only []; omega)
        simp only [bA_len, bA_sc, Weak, eq_self, used_is, sc_any, sc_c, sc_pp, sc_ref, sc_row, sc_agg, sc_fn, ScL, some_imp, List.forall_mem_map, go_sem, Int.reduceBEq, Int.reduceLE, Int.reduceLT, Int.reduceNeg, Nat.reduceAdd, Nat.reduceEqDiff, Nat.reduceLT, Nat.reduceLeDiff, Nat.reduceMul, Nat.reduceSub, reduceCtorEq, ↓reduceIte]
        rw [show (y : Int) = ((y.toUInt8).toNat : Int) from by rw [← hxy, hy], bA_one]
        exact ⟨⟨by simp, cI (by omega)⟩, rfl, Nat.le_refl _⟩
  · have hge : i = s.length := by simp at hc; omega
    subst hge
    rw [List.take_length] at hcc
    have hfin : c ++ [34] = l ++ mQuote s := by rw [hcc, mQuote]; simp
    have hfl : c.length + 1 = (l ++ mQuote s).length := by rw [← hfin]; simp
    refine walkGF (@bA_len) ?_
    refine ⟨by first | exact .inr rfl | exact .inl rfl, ?_⟩; rw [Tryz.results25]; simp only [bA_ren, bA_app, hfin, hfl, resOk, resV, go_sem, Int.reduceBEq, Int.reduceLE, Int.reduceLT, Int.reduceNeg, Nat.reduceAdd, Nat.reduceEqDiff, Nat.reduceLT, Nat.reduceLeDiff, Nat.reduceMul, Nat.reduceSub, reduceCtorEq, ↓reduceIte]
    exact ⟨by rw [← hfin]; simp [bA], .keepW rfl⟩

end Go.Proofs.YticfioblapjkmaaGreat
