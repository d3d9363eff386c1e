/- Texts that lead to the law DecodeOne, joined. -/
import Derived.Test.YtepneflbhpidbaaGreatDoorPkDecodeOneE
import Derived.Test.YtepneflbhpidbaaGreatDoorPkDecodeOneC
import Derived.Test.YtepneflbhpidbaaGreatDoorPkDecodeOneA
import Derived.Test.YtepneflbhpidbaaGreatDoorPkDecodeOneD
namespace Go.Proofs.YtepneflbhpidbaaGreatDoor
set_option maxRecDepth 100000
set_option maxHeartbeats 6400000
open Go.RowKit
set_option linter.unusedVariables false
set_option linter.unusedSimpArgs false
section
attribute [local go_sem] opx opE ev okx q5h bnd okO AV.get AV.okb cAV q6y q8g q8f j0t j0s q79 q78 st q7s q5r q7u q7v q7t binV binI binS q42 q5o q5i q5p unV q6h q4h q3v q04 q2j Blkd.len setE grown q1r q45 q3w q4o pv q4j q30 q39 AV.cellish AV.pureL AV.pureB q77 q71 AV.ren AV.renL q8i Blkd.ren rho wrM renN q3t rhoE q4s q44 q7f q4y q6v q51 j0h j0i j0l q5l q8o q8w q8x q8z q83 q9a q9b q9f q9l q9n q9p q7g q9q q7h q50 q7i q7j j0b q6t q7k j0c q6e j0d q6u j0e q6f q7l j0f q7m j0g j0j j0k j0m j0n j0o j0p j0q q8p q8q q8r q8s q8t q8u q8v q8y q80 q81 q82 q84 q85 q86 q87 q88 q89 q9c q9d q9e q9g q9h q9i q9j q9k q9m q9o q9r q9s q9t q9u q9v q9w q9x q9y q9z q90 q91 q92 q93 q94 q95 q96 q97 q98 q99 j0a Option.map_some Option.map_none Option.getD_some Option.getD_none Option.bind_some Option.bind_none List.getElem?_cons_zero List.getElem?_cons_succ List.getElem?_nil List.getElem?_toArray List.length_cons List.length_nil List.length_map List.forall_mem_map List.map_cons List.map_nil List.drop_zero List.drop_succ_cons List.drop_nil List.take_zero List.take_succ_cons List.take_nil List.mem_cons List.not_mem_nil or_false forall_eq_or_imp forall_eq List.set_cons_zero List.set_cons_succ List.cons_append List.nil_append List.append_nil List.foldl_cons List.foldl_nil List.replicate_succ List.replicate_zero List.all_cons List.all_nil if_true if_false Bool.false_eq_true ne_eq not_false_eq_true not_true_eq_false true_and and_true and_self true_implies imp_self implies_true forall_const beq_self_eq_true Bool.and_true Bool.true_and Bool.and_false Bool.false_and Bool.or_true Bool.true_or Bool.or_false Bool.false_or Bool.not_true Bool.not_false Bool.not_eq_eq_eq_not q6a Value.oneCell' Int.toNat_natCast beq_true beq_false Bool.not_eq_true false_implies false_or true_or or_true Nat.zero_add Nat.add_zero decide_true decide_false Int.cast_ofNat_Int Int.toNat_zero Int.toNat_one eq_self

def runF (lf : Int → Int → Nat → Int → Int × Nat × Int) : List FT → Int → Nat → Int → Int × Nat × Int
 | [], L, p, e => (L, p, e)
 | t :: ts, L, p, e => if 0 ≤ L then runF lf ts (lf t.type L p e).1 (lf t.type L p e).2.1 (lf t.type L p e).2.2 else (L, p, e)
def runI (step : Int → Nat → Int × Nat × Int) : Nat → Nat → Int → Nat → Int → Nat × Int × Nat × Int
 | 0, h, L, p, e => (h, L, p, e)
 | m + 1, h, L, p, e => if e = 0 ∧ 0 ≤ L then runI step m (h + 1) (step L p).1 (step L p).2.1 (step L p).2.2 else (h, L, p, e)
def runO (step : Int → Nat → Int × Nat × Int) (cnt : Nat → Nat → Int → Nat × Nat × Int) : Nat → Nat → Nat → Int → Nat → Int → Int × Nat × Int
 | 0, m, h, L, p, e => (L, p, e)
 | k + 1, m, h, L, p, e => if 0 < m ∧ 0 ≤ L then
   runO step cnt k (cnt (runI step m h L p e).1 (runI step m h L p e).2.2.1 (runI step m h L p e).2.2.2).1 (runI step m h L p e).1 (runI step m h L p e).2.1
    (cnt (runI step m h L p e).1 (runI step m h L p e).2.2.1 (runI step m h L p e).2.2.2).2.1 (cnt (runI step m h L p e).1 (runI step m h L p e).2.2.1 (runI step m h L p e).2.2.2).2.2
   else (L, p, e)
theorem runI_end {step : Int → Nat → Int × Nat × Int} {m h : Nat} {L : Int} {p : Nat} {e : Int} (hm : m = 0 ∨ ¬ (e = 0 ∧ 0 ≤ L)) : runI step m h L p e = (h, L, p, e) := by
 cases m with
 | zero => rfl
 | succ m =>
   rw [runI, if_neg]
   rcases hm with hm | hm
   · omega
   · exact hm
def StepL (B : List UInt8) (step : Int → Nat → Int × Nat × Int) : Prop := ∀ L p, 0 ≤ L → L ≤ 200000 → p ≤ B.length → p ≤ (step L p).2.1 ∧ (step L p).2.1 ≤ B.length ∧ -1 ≤ (step L p).1 ∧ (step L p).1 ≤ L
theorem j39 {B : List UInt8} {step : Int → Nat → Int × Nat × Int} (hs : StepL B step) : ∀ (m h : Nat) (L : Int) (p : Nat) (e : Int), -1 ≤ L → L ≤ 200000 → p ≤ B.length →
  h ≤ (runI step m h L p e).1 ∧ (runI step m h L p e).1 ≤ h + m ∧ -1 ≤ (runI step m h L p e).2.1 ∧ (runI step m h L p e).2.1 ≤ L ∧ p ≤ (runI step m h L p e).2.2.1 ∧ (runI step m h L p e).2.2.1 ≤ B.length
 | 0, h, L, p, e, h1, h2, h3 => by rw [runI]; simp only []; omega
 | m + 1, h, L, p, e, h1, h2, h3 => by
   rw [runI]
   split
   · rename_i hc
     obtain ⟨a1, a2, a3, a4⟩ := hs L p hc.2 h2 h3
     have := j39 hs m (h + 1) (step L p).1 (step L p).2.1 (step L p).2.2 a3 (by omega) a2
     omega
   · simp only []; omega
theorem runF_ok {B : List UInt8} {lf : Int → Int → Nat → Int → Int × Nat × Int} : ∀ (ts : List FT) (hs : ∀ t ∈ ts, ∀ L p e, 0 ≤ L → L ≤ 200000 → p ≤ B.length → p ≤ (lf t.type L p e).2.1 ∧ (lf t.type L p e).2.1 ≤ B.length ∧ -1 ≤ (lf t.type L p e).1 ∧ (lf t.type L p e).1 ≤ L) (L : Int) (p : Nat) (e : Int), -1 ≤ L → L ≤ 200000 → p ≤ B.length →
  -1 ≤ (runF lf ts L p e).1 ∧ (runF lf ts L p e).1 ≤ L ∧ p ≤ (runF lf ts L p e).2.1 ∧ (runF lf ts L p e).2.1 ≤ B.length
 | [], hs, L, p, e, h1, h2, h3 => by rw [runF]; simp only []; omega
 | t :: ts, hs, L, p, e, h1, h2, h3 => by
   rw [runF]
   split
   · rename_i hc
     obtain ⟨a1, a2, a3, a4⟩ := hs t (by simp) L p e hc h2 h3
     have := runF_ok ts (fun t ht => hs t (by simp [ht])) (lf t.type L p e).1 (lf t.type L p e).2.1 (lf t.type L p e).2.2 a3 (by omega) a2
     omega
   · simp only []; omega
def CntL (B : List UInt8) (cnt : Nat → Nat → Int → Nat × Nat × Int) : Prop := ∀ h p e, h ≤ 300 → p ≤ B.length → p ≤ (cnt h p e).2.1 ∧ (cnt h p e).2.1 ≤ B.length ∧ (cnt h p e).1 + h ≤ 300 ∧ ((cnt h p e).2.2 ≠ 0 → (cnt h p e).1 = 0)
theorem runO_ok {B : List UInt8} {step : Int → Nat → Int × Nat × Int} (hs : StepL B step) {cnt : Nat → Nat → Int → Nat × Nat × Int} (hc : CntL B cnt) : ∀ (k m h : Nat) (L : Int) (p : Nat) (e : Int), m + h ≤ 300 → -1 ≤ L → L ≤ 200000 → p ≤ B.length →
  -1 ≤ (runO step cnt k m h L p e).1 ∧ (runO step cnt k m h L p e).1 ≤ L ∧ p ≤ (runO step cnt k m h L p e).2.1 ∧ (runO step cnt k m h L p e).2.1 ≤ B.length
 | 0, m, h, L, p, e, h0, h1, h2, h3 => by rw [runO]; simp only []; omega
 | k + 1, m, h, L, p, e, h0, h1, h2, h3 => by
   rw [runO]
   split
   · obtain ⟨a1, a2, a3, a4, a5, a6⟩ := j39 hs m h L p e h1 h2 h3
     generalize runI step m h L p e = R at a1 a2 a3 a4 a5 a6
     obtain ⟨b1, b2, b3, _⟩ := hc R.1 R.2.2.1 R.2.2.2 (by omega) a6
     have := runO_ok hs hc k (cnt R.1 R.2.2.1 R.2.2.2).1 R.1 R.2.1 (cnt R.1 R.2.2.1 R.2.2.2).2.1 (cnt R.1 R.2.2.1 R.2.2.2).2.2 b3 a3 (by omega) b2
     omega
   · simp only []; omega
def LfT (s : ST) (B : List UInt8) (a : Int) (dep : Nat) (lf : Int → Nat → Int → Int × Nat × Int) : Prop := ∀ L p e, 0 ≤ L → L ≤ 200000 → p ≤ B.length →
 Adv B p e (lf L p e).2.1 (lf L p e).2.2 ∧ -1 ≤ (lf L p e).1 ∧ (lf L p e).1 ≤ L ∧
 ToldM Tryz.prog 105 [s.av, .c (.v (.int .i64 a)), .c (.v (.int .i64 (dep : Int))), .c (.v (.int .i64 L)), .ref 1000000 1 0 0] [rB B p e] [some (rB B (lf L p e).2.1 (lf L p e).2.2)] (.c (.v (.int .i64 (lf L p e).1)))
def LfE (s : ST) (B : List UInt8) (a : Int) (dep : Nat) (L : Int) (p : Nat) (e : Int) : Prop := ∃ (L' : Int) (q : Nat) (e' : Int), Adv B p e q e' ∧ -1 ≤ L' ∧ L' ≤ L ∧
 ToldM Tryz.prog 105 [s.av, .c (.v (.int .i64 a)), .c (.v (.int .i64 (dep : Int))), .c (.v (.int .i64 L)), .ref 1000000 1 0 0] [rB B p e] [some (rB B q e')] (.c (.v (.int .i64 L')))
theorem lf_of {s : ST} {B : List UInt8} {dep : Nat} (H : ∀ a : Int, 0 ≤ a → a < (s.nodes.length : Int) → ∀ L p e, 0 ≤ L → L ≤ 200000 → p ≤ B.length → LfE s B a dep L p e) : ∃ lf : Int → Int → Nat → Int → Int × Nat × Int, ∀ a : Int, 0 ≤ a → a < (s.nodes.length : Int) → LfT s B a dep (lf a) := by
 have key : ∀ (a L : Int) (p : Nat) (e : Int), ∃ t : Int × Nat × Int, 0 ≤ a → a < (s.nodes.length : Int) → 0 ≤ L → L ≤ 200000 → p ≤ B.length → Adv B p e t.2.1 t.2.2 ∧ -1 ≤ t.1 ∧ t.1 ≤ L ∧
   ToldM Tryz.prog 105 [s.av, .c (.v (.int .i64 a)), .c (.v (.int .i64 (dep : Int))), .c (.v (.int .i64 L)), .ref 1000000 1 0 0] [rB B p e] [some (rB B t.2.1 t.2.2)] (.c (.v (.int .i64 t.1))) := by
  intro a L p e
  by_cases h : 0 ≤ a ∧ a < (s.nodes.length : Int) ∧ 0 ≤ L ∧ L ≤ 200000 ∧ p ≤ B.length
  · obtain ⟨L', q, e', h1⟩ := H a h.1 h.2.1 L p e h.2.2.1 h.2.2.2.1 h.2.2.2.2
    exact ⟨(L', q, e'), fun _ _ _ _ _ => h1⟩
  · exact ⟨(0, 0, 0), fun h1 h2 h3 h4 h5 => absurd ⟨h1, h2, h3, h4, h5⟩ h⟩
 exact ⟨fun a L p e => Classical.choose (key a L p e), fun a h1 h2 L p e h3 h4 h5 => Classical.choose_spec (key a L p e) h1 h2 h3 h4 h5⟩
/-! Left, kind by kind. -/
theorem z0e (s : ST) (B : List UInt8) (a : Nat) (nd : NT) (hnd : s.nodes[a]? = some nd) (hk : nd.kind < 9 ∨ nd.kind = 10 ∨ nd.kind = 14) (dep : Nat) (L : Int) (h0 : 0 ≤ L) (h1 : L ≤ 200000) (p : Nat) (e : Int) (hl : q5e s (a : Int) dep B p e) : LfE s B (a : Int) dep L p e := by
 have hnp : (s.nodes.map NT.cells)[a]? = some nd.cells := by rw [List.getElem?_map, hnd]; rfl
 have ha : a < s.nodes.length := (List.getElem?_eq_some_iff.1 hnd).1
 have hw : IntKind.i64.wrap (L - 1) = L - 1 := q0f (by omega) (by omega)
 obtain ⟨v, q, e', a1, hT⟩ := hl
 refine ⟨L - 1, q, e', a1, by omega, by omega, ?_⟩
 rw [ST.av_eq, q0i] at *
 unfold rB at *
 rcases hk with hk | hk | hk
 · have g8 : decide (nd.kind ≤ 8) = true := by simp; omega
   refine VC.toldX q6k [] Tryz.func105 rfl Tryz.ntmps105 fun hb hbL => ?_
   clear hb hbL
   refine q0a (And.intro hnp (And.intro @q0d (And.intro @q1m (And.intro hw g8)))) ?_
   refine q01 (@q0d) [1000000] (hT) ?_
   refine q0a (@q0d) ?_
   refine retX Tryz.results105 ?_
   exact .c _
 · have g8 : decide (nd.kind ≤ 8) = false := by rw [hk]; rfl
   have g10 : (nd.kind == 10) = true := by rw [hk]; rfl
   refine VC.toldX q6k [] Tryz.func105 rfl Tryz.ntmps105 fun hb hbL => ?_
   clear hb hbL
   refine q0a (And.intro hnp (And.intro @q0d (And.intro @q1m (And.intro hw (And.intro g8 g10))))) ?_
   refine q01 (@q0d) [1000000] (hT) ?_
   refine q0a (@q0d) ?_
   refine retX Tryz.results105 ?_
   exact .c _
 · have g8 : decide (nd.kind ≤ 8) = false := by rw [hk]; rfl
   have g10 : (nd.kind == 10) = false := by rw [hk]; rfl
   have g14 : (nd.kind == 14) = true := by rw [hk]; rfl
   refine VC.toldX q6k [] Tryz.func105 rfl Tryz.ntmps105 fun hb hbL => ?_
   clear hb hbL
   refine q0a (And.intro hnp (And.intro @q0d (And.intro @q1m (And.intro hw (And.intro g8 (And.intro g10 g14)))))) ?_
   refine q01 (@q0d) [1000000] (hT) ?_
   refine q0a (@q0d) ?_
   refine retX Tryz.results105 ?_
   exact .c _
theorem z0d (s : ST) (B : List UInt8) (a : Nat) (nd : NT) (hnd : s.nodes[a]? = some nd) (hk : nd.kind = 9 ∨ nd.kind = 11 ∨ nd.kind = 12 ∨ nd.kind = 13) (dep : Nat) (L : Int) (h0 : 0 ≤ L) (h1 : L ≤ 200000) (p : Nat) (hp : p ≤ B.length) (e : Int) (hor : dep = 20 ∨ (dep ≠ 20 ∧ (e ≠ 0 ∨ L = 0))) : LfE s B (a : Int) dep L p e := by
 have hnp : (s.nodes.map NT.cells)[a]? = some nd.cells := by rw [List.getElem?_map, hnd]; rfl
 have ha : a < s.nodes.length := (List.getElem?_eq_some_iff.1 hnd).1
 have hw : IntKind.i64.wrap (L - 1) = L - 1 := q0f (by omega) (by omega)
 have g8 : decide (nd.kind ≤ 8) = false := by simp; omega
 have g10 : (nd.kind == 10) = false := by simp; omega
 have g14 : (nd.kind == 14) = false := by simp; omega
 rcases hor with rfl | ⟨hd, he⟩
 · have gd : (((20 : Nat) : Int) == 20) = true := rfl
   by_cases h : e = 0
   · subst h
     refine ⟨L - 1, p, 15, ⟨hp, Nat.le_refl _, fun h => absurd rfl h⟩, by omega, by omega, ?_⟩
     rw [ST.av_eq, q0i] at *
     unfold rB at *
     refine VC.toldX q6k [] Tryz.func105 rfl Tryz.ntmps105 fun hb hbL => ?_
     clear hb hbL
     refine q0a (And.intro hnp (And.intro @q0d (And.intro @q1m (And.intro hw (And.intro g8 (And.intro g10 (And.intro g14 gd))))))) ?_
     refine retX Tryz.results105 ?_
     exact .c _
   · have f1 : (e == 0) = false := by simpa using h
     have f2 : (e != 0) = true := by simpa using h
     refine ⟨L - 1, p, e, ⟨hp, Nat.le_refl _, fun _ => ⟨rfl, rfl⟩⟩, by omega, by omega, ?_⟩
     rw [ST.av_eq, q0i] at *
     unfold rB at *
     refine VC.toldX q6k [] Tryz.func105 rfl Tryz.ntmps105 fun hb hbL => ?_
     clear hb hbL
     refine q0a (And.intro hnp (And.intro @q0d (And.intro @q1m (And.intro hw (And.intro g8 (And.intro g10 (And.intro g14 (And.intro gd (And.intro f1 f2))))))))) ?_
     refine retX Tryz.results105 ?_
     exact .c _
 · have gd : ((dep : Int) == 20) = false := by simp; omega
   refine ⟨L - 1, p, e, ⟨hp, Nat.le_refl _, fun _ => ⟨rfl, rfl⟩⟩, by omega, by omega, ?_⟩
   rw [ST.av_eq, q0i] at *
   unfold rB at *
   by_cases h : e = 0
   · have hL0 := he.resolve_left fun h' => h' h
     subst h hL0
     have hw' : IntKind.i64.wrap (0 - 1) = -1 := by decide
     have f3 : decide ((-1 : Int) < 0) = true := by decide
     refine VC.toldX q6k [] Tryz.func105 rfl Tryz.ntmps105 fun hb hbL => ?_
     clear hb hbL
     refine q0a (And.intro hnp (And.intro @q0d (And.intro @q1m (And.intro hw' (And.intro f3 (And.intro g8 (And.intro g10 (And.intro g14 gd)))))))) ?_
     refine retX Tryz.results105 ?_
     exact .c _
   · have f2 : (e != 0) = true := by simpa using h
     refine VC.toldX q6k [] Tryz.func105 rfl Tryz.ntmps105 fun hb hbL => ?_
     clear hb hbL
     refine q0a (And.intro hnp (And.intro @q0d (And.intro @q1m (And.intro hw (And.intro g8 (And.intro g10 (And.intro g14 (And.intro gd f2)))))))) ?_
     refine retX Tryz.results105 ?_
     exact .c _

def q1y (g : Nat → Int) : List FT → Int → Int
 | [], n => n
 | x :: xs, n => q1y g xs (min (n + g x.type.toNat) 1001)
def omg (ns : List NT) : Nat → Nat → Int
 | 0, _ => 1001
 | d + 1, p => q1y (omg ns d) (q1t ns p) 1
theorem j5x {g h : Nat → Int} (hgh : ∀ q, g q ≤ h q) : ∀ (xs : List FT) (n m : Int), n ≤ m → q1y g xs n ≤ q1y h xs m
 | [], n, m, h => h
 | x :: xs, n, m, h => by
   rw [q1y, q1y]
   have := hgh x.type.toNat
   exact j5x hgh xs _ _ (by omega)
theorem j2d {g : Nat → Int} : ∀ (xs : List FT) (n : Int), n ≤ 1001 → q1y g xs n ≤ 1001
 | [], n, h => h
 | x :: xs, n, h => by
   rw [q1y]
   exact j2d xs _ (by omega)
theorem j02 {g : Nat → Int} (hg : ∀ q, 1 ≤ g q) : ∀ (xs : List FT) (n : Int), n ≤ 1001 → n ≤ q1y g xs n
 | [], n, h => Int.le_refl _
 | x :: xs, n, h => by
   rw [q1y]
   have h1 := hg x.type.toNat
   have := j02 hg xs (min (n + g x.type.toNat) 1001) (by omega)
   omega
theorem j84 {g : Nat → Int} (hg : ∀ q, 1 ≤ g q) : ∀ (xs : List FT) (n : Int), 1 ≤ n → n ≤ 1001 → (∃ x ∈ xs, g x.type.toNat = 1001) → q1y g xs n = 1001
 | [], n, _, h, hx => by obtain ⟨x, hx, _⟩ := hx; simp at hx
 | x :: xs, n, h1, h, hx => by
   rw [q1y]
   have hgx := hg x.type.toNat
   by_cases he : g x.type.toNat = 1001
   · have hm : min (n + g x.type.toNat) 1001 = 1001 := by omega
     rw [hm]
     have a := j02 hg xs 1001 (by omega)
     have b := j2d (g := g) xs 1001 (by omega)
     omega
   · obtain ⟨y, hy, hy2⟩ := hx
     rcases List.mem_cons.1 hy with rfl | hy
     · exact absurd hy2 he
     · exact j84 hg xs _ (by omega) (by omega) ⟨y, hy, hy2⟩
theorem j82 {g h : Nat → Int} : ∀ (xs : List FT) (n : Int), (∀ x ∈ xs, g x.type.toNat = h x.type.toNat) → q1y g xs n = q1y h xs n
 | [], n, _ => rfl
 | x :: xs, n, e => by
   rw [q1y, q1y, e x (by simp)]
   exact j82 xs _ fun y hy => e y (by simp [hy])
theorem j2h (ns : List NT) : ∀ (d p : Nat), 1 ≤ omg ns d p ∧ omg ns d p ≤ 1001
 | 0, p => ⟨by rw [omg]; decide, by rw [omg]; decide⟩
 | d + 1, p => by
   rw [omg]
   exact ⟨j02 (fun q => (j2h ns d q).1) _ _ (by decide), j2d _ _ (by decide)⟩
theorem omg_dec (ns : List NT) : ∀ (d p : Nat), omg ns (d + 1) p ≤ omg ns d p
 | 0, p => by rw [omg.eq_1]; exact (j2h ns 1 p).2
 | d + 1, p => by
   rw [omg, omg]
   exact j5x (omg_dec ns d) _ _ _ (Int.le_refl _)
theorem j9r (ns : List NT) (d p : Nat) : ∀ e, omg ns (d + e) p ≤ omg ns d p
 | 0 => Int.le_refl _
 | e + 1 => Int.le_trans (omg_dec ns (d + e) p) (j9r ns d p e)
theorem omg_one (ns : List NT) (p : Nat) : ∀ (b d : Nat), omg ns d p ≤ (b : Int) → ∃ D, ∀ e, omg ns (D + e) p = omg ns D p
 | 0, d, h => by have := (j2h ns d p).1; omega
 | b + 1, d, h => by
   by_cases hs : ∀ e, omg ns (d + e) p = omg ns d p
   · exact ⟨d, hs⟩
   · obtain ⟨e, he⟩ := Classical.not_forall.1 hs
     have := j9r ns d p e
     exact omg_one ns p b (d + e) (by omega)
theorem omg_all (ns : List NT) : ∀ N : Nat, ∃ D, ∀ p, p < N → ∀ e, omg ns (D + e) p = omg ns D p
 | 0 => ⟨0, fun p h => by omega⟩
 | N + 1 => by
   obtain ⟨D1, h1⟩ := omg_all ns N
   obtain ⟨D2, h2⟩ := omg_one ns N 1001 0 (by rw [omg]; decide)
   refine ⟨max D1 D2, fun p hp e => ?_⟩
   by_cases hpN : p < N
   · have a := h1 p hpN (max D1 D2 - D1 + e)
     have b := h1 p hpN (max D1 D2 - D1)
     rw [show D1 + (max D1 D2 - D1 + e) = max D1 D2 + e by omega] at a
     rw [show D1 + (max D1 D2 - D1) = max D1 D2 by omega] at b
     rw [a, b]
   · obtain rfl : p = N := by omega
     have a := h2 (max D1 D2 - D2 + e)
     have b := h2 (max D1 D2 - D2)
     rw [show D2 + (max D1 D2 - D2 + e) = max D1 D2 + e by omega] at a
     rw [show D2 + (max D1 D2 - D2) = max D1 D2 by omega] at b
     rw [a, b]
structure IsG (ns : List NT) (G : Nat → Int) : Prop where
 range : ∀ p, 1 ≤ G p ∧ G p ≤ 1001
 fix : ∀ p, p < ns.length → G p = q1y G (q1t ns p) 1
 top : ∀ S : Nat → Prop, (∀ q, S q → ∃ x ∈ q1t ns q, S x.type.toNat) → ∀ q, S q → G q = 1001
theorem omg_top (ns : List NT) (S : Nat → Prop) (hS : ∀ q, S q → ∃ x ∈ q1t ns q, S x.type.toNat) : ∀ (d q : Nat), S q → omg ns d q = 1001
 | 0, q, _ => by rw [omg]
 | d + 1, q, h => by
   rw [omg]
   obtain ⟨x, hx, hx2⟩ := hS q h
   exact j84 (fun q => (j2h ns d q).1) _ _ (by decide) (by decide) ⟨x, hx, omg_top ns S hS d _ hx2⟩
theorem exG (ns : List NT) (hr : ∀ p, ∀ x ∈ q1t ns p, x.type.toNat < ns.length) : ∃ G, IsG ns G := by
 obtain ⟨D, hD⟩ := omg_all ns ns.length
 refine ⟨omg ns D, fun p => j2h ns D p, fun p hp => ?_, fun S hS q hq => omg_top ns S hS D q hq⟩
 have h := hD p hp 1
 rw [← h, omg]
def Edge (ns : List NT) (p q : Nat) : Prop := ∃ x ∈ q1t ns p, x.type.toNat = q
inductive Way (ns : List NT) : Nat → Nat → Prop
 | one {p q : Nat} (h : Edge ns p q) : Way ns p q
 | step {p q r : Nat} (h : Edge ns p q) (w : Way ns q r) : Way ns p r
theorem Way.tail {ns : List NT} {p q r : Nat} (w : Way ns p q) (h : Edge ns q r) : Way ns p r := by
 induction w with
 | one h1 => exact .step h1 (.one h)
 | step h1 _ ih => exact .step h1 (ih h)
theorem IsG.cyc {ns : List NT} {G : Nat → Int} (h : IsG ns G) {p : Nat} (hp : Way ns p p) : G p = 1001 := by
 refine h.top (fun q => Way ns q p) (fun q hq => ?_) p hp
 cases hq with
 | one h1 =>
   obtain ⟨x, hx, he⟩ := h1
   exact ⟨x, hx, by rw [he]; exact hp⟩
 | step h1 w =>
   obtain ⟨x, hx, he⟩ := h1
   exact ⟨x, hx, by rw [he]; exact w⟩
structure Memo (ns : List NT) (G : Nat → Int) (kn : List Int) (p : Nat) : Prop where
 len : kn.length = ns.length
 ok : KnOk kn
 pos : ∀ (j : Nat) (v : Int), kn[j]? = some v → 0 < v → v = G j
 neg : ∀ (j : Nat) (v : Int), kn[j]? = some v → v < 0 → Way ns j p
structure Kept (ns : List NT) (G : Nat → Int) (kn kn' : List Int) : Prop where
 len : kn'.length = ns.length
 ok : KnOk kn'
 pos : ∀ (j : Nat) (v : Int), kn'[j]? = some v → 0 < v → v = G j
 neg : ∀ (j : Nat) (v : Int), kn'[j]? = some v → v < 0 → ∃ u, kn[j]? = some u ∧ u < 0
 cnt : kn'.count 0 ≤ kn.count 0
theorem z13 {ns : List NT} {G : Nat → Int} (hG : IsG ns G) (f : Nat → List Int → Int × List Int) (p : Nat) (c : Nat)
  (hf : ∀ (q : Nat) (kn : List Int), q < ns.length → Memo ns G kn q → kn.count 0 < c → (f q kn).1 = G q ∧ Kept ns G kn (f q kn).2) :
  ∀ (xs : List FT) (n : Int) (kn0 kn : List Int), (∀ x ∈ xs, x.type.toNat < ns.length ∧ Edge ns p x.type.toNat) → Kept ns G kn0 kn → (∀ (j : Nat) (v : Int), kn0[j]? = some v → v < 0 → j = p ∨ Way ns j p) → kn0.count 0 < c →
   (q3y f xs n kn).1 = q1y G xs n ∧ Kept ns G kn0 (q3y f xs n kn).2
 | [], n, kn0, kn, _, hk, _, _ => ⟨rfl, hk⟩
 | x :: xs, n, kn0, kn, hx, hk, hn, hc => by
   rw [q3y, q1y]
   obtain ⟨hxl, hxe⟩ := hx x (by simp)
   have hm : Memo ns G kn x.type.toNat := ⟨hk.len, hk.ok, hk.pos, fun j v hj hv => by
    obtain ⟨u, hu, hu0⟩ := hk.neg j v hj hv
    rcases hn j u hu hu0 with rfl | w
    · exact .one hxe
    · exact w.tail hxe⟩
   obtain ⟨h1, h2⟩ := hf x.type.toNat kn hxl hm (by have := hk.cnt; omega)
   rw [h1]
   exact z13 hG f p c hf xs _ kn0 _ (fun y hy => hx y (by simp [hy])) ⟨h2.len, h2.ok, h2.pos, fun j v hj hv => by
    obtain ⟨u, hu, hu0⟩ := h2.neg j v hj hv
    exact hk.neg j u hu hu0, by have := hk.cnt; have := h2.cnt; omega⟩ hn hc
theorem j2l {kn : List Int} {p j : Nat} {v w : Int} (h : (kn.set p w)[j]? = some v) : (j = p ∧ v = w) ∨ (j ≠ p ∧ kn[j]? = some v) := by
 rw [List.getElem?_set] at h
 split at h
 · rename_i hp
   split at h
   · exact .inl ⟨hp.symm, (Option.some.inj h).symm⟩
   · simp at h
 · rename_i hp
   exact .inr ⟨fun e => hp e.symm, h⟩
theorem z14 {ns : List NT} {G : Nat → Int} (hG : IsG ns G) (hr : ∀ p, ∀ x ∈ q1t ns p, x.type.toNat < ns.length) : ∀ (d p : Nat) (kn : List Int), p < ns.length → Memo ns G kn p → kn.count 0 < d → (q2v ns d p kn).1 = G p ∧ Kept ns G kn (q2v ns d p kn).2
 | 0, p, kn, _, _, h => by omega
 | d + 1, p, kn, hp, hm, hc => by
   obtain ⟨v, hv⟩ : ∃ v, kn[p]? = some v := ⟨kn[p]'(by rw [hm.len]; exact hp), List.getElem?_eq_getElem _⟩
   have hself : Kept ns G kn kn := ⟨hm.len, hm.ok, hm.pos, fun j u hj hu => ⟨u, hj, hu⟩, Nat.le_refl _⟩
   rw [q2v, knAt_of hv]
   split
   · rename_i h0
     exact ⟨(hG.cyc (hm.neg p v hv h0)).symm, hself⟩
   · split
     · rename_i h0 h1
       exact ⟨hm.pos p v hv h1, hself⟩
     · rename_i h0 h1
       obtain rfl : v = 0 := by omega
       have hct := j8l (v := -1) hv (by decide)
       have hk1 : Kept ns G (kn.set p (-1)) (kn.set p (-1)) := ⟨by rw [List.length_set]; exact hm.len, hm.ok.set p (by decide), fun j u hj hu => by
        rcases j2l hj with ⟨_, rfl⟩ | ⟨_, h⟩
        · omega
        · exact hm.pos j u h hu, fun j u hj hu => ⟨u, hj, hu⟩, Nat.le_refl _⟩
       obtain ⟨h2, h3⟩ := z13 hG (q2v ns d) p d (fun q kn hq hmq hcq => z14 hG hr d q kn hq hmq hcq) (q1t ns p) 1 (kn.set p (-1)) (kn.set p (-1)) (fun x hx => ⟨hr p x hx, x, hx, rfl⟩) hk1 (fun j u hj hu => by
        rcases j2l hj with ⟨e, _⟩ | ⟨_, h⟩
        · exact .inl e
        · exact .inr (hm.neg j u h hu)) (by omega)
       simp only []
       rw [h2, ← hG.fix p hp]
       have hGp := hG.range p
       have c2 := j45 (kn := (q3y (q2v ns d) (q1t ns p) 1 (kn.set p (-1))).2) p (v := G p) (by omega)
       refine ⟨rfl, by rw [List.length_set]; exact h3.len, h3.ok.set p (by omega), fun j u hj hu => ?_, fun j u hj hu => ?_, by have := h3.cnt; omega⟩
       · rcases j2l hj with ⟨rfl, rfl⟩ | ⟨_, h⟩
         · rfl
         · exact h3.pos j u h hu
       · rcases j2l hj with ⟨_, rfl⟩ | ⟨hne, h⟩
         · omega
         · obtain ⟨w, hw, hw0⟩ := h3.neg j u h hu
           rcases j2l hw with ⟨e, _⟩ | ⟨_, h'⟩
           · exact absurd e hne
           · exact ⟨w, h', hw0⟩
theorem memo_none {ns : List NT} {G : Nat → Int} {kn : List Int} (h1 : kn.length = ns.length) (h2 : KnOk kn) (h3 : ∀ (j : Nat) (v : Int), kn[j]? = some v → 0 < v → v = G j) (h4 : ∀ (j : Nat) (v : Int), kn[j]? = some v → ¬ v < 0) (p : Nat) : Memo ns G kn p :=
 ⟨h1, h2, h3, fun j v hj hv => absurd hv (h4 j v hj)⟩

/-! Names by their last dot. -/
def sp1 : List UInt8 → List UInt8 × List (List UInt8)
 | [] => ([], [])
 | c :: cs => if c = 46 then ([], (sp1 cs).1 :: (sp1 cs).2) else (c :: (sp1 cs).1, (sp1 cs).2)
def okF (s : List UInt8) : Bool := q4d (sp1 s).1 && (sp1 s).2.all q4d
theorem j6t : ∀ t : List UInt8, 46 ∉ t → sp1 t = (t, [])
 | [], _ => rfl
 | c :: cs, h => by
   have hc : c ≠ 46 := fun e => h (e ▸ List.mem_cons_self)
   rw [sp1, if_neg hc, j6t cs fun hm => h (List.mem_cons_of_mem _ hm)]
theorem sp1_dot {t : List UInt8} (ht : 46 ∉ t) : ∀ s : List UInt8, sp1 (s ++ 46 :: t) = ((sp1 s).1, (sp1 s).2 ++ [t])
 | [] => by
   have e : sp1 (46 :: t) = ([], (sp1 t).1 :: (sp1 t).2) := by rw [sp1.eq_2, if_pos rfl]
   rw [List.nil_append, e, j6t t ht]
   rfl
 | c :: cs => by
   rw [List.cons_append, sp1, sp1, sp1_dot ht cs]
   split
   · rfl
   · rfl
theorem okF_none {t : List UInt8} (h : 46 ∉ t) : okF t = q4d t := by
 rw [okF, j6t t h]
 simp
theorem okF_dot {t : List UInt8} (ht : 46 ∉ t) (s : List UInt8) : okF (s ++ 46 :: t) = (okF s && q4d t) := by
 rw [okF, sp1_dot ht, okF]
 simp [List.all_append, Bool.and_assoc]
theorem z0w : ∀ s : List UInt8, (sp1 s).1 = s.takeWhile (· != 46) ∧ (sp1 s).2 = match s.dropWhile (· != 46) with | [] => [] | _ :: r => (sp1 r).1 :: (sp1 r).2
 | [] => ⟨rfl, rfl⟩
 | c :: cs => by
   obtain ⟨h1, h2⟩ := z0w cs
   by_cases h : c = 46
   · subst h
     exact ⟨by simp [sp1], by simp [sp1]⟩
   · have hb : (c != 46) = true := by simp [h]
     rw [sp1, if_neg h, List.takeWhile_cons, List.dropWhile_cons, if_pos hb, if_pos hb]
     exact ⟨by rw [h1], h2⟩
theorem j87 : ∀ (n : Nat) (s : List UInt8), s.length < n → q57 n s = okF s
 | 0, _, h => by omega
 | n + 1, s, h => by
   obtain ⟨h1, h2⟩ := z0w s
   rw [q57, okF, h1, h2]
   congr 1
   have hd : (s.dropWhile (· != 46)).length ≤ s.length := (List.dropWhile_sublist _).length_le
   cases hr : s.dropWhile (· != 46) with
   | nil => rfl
   | cons x r =>
     rw [hr] at hd
     simp at hd
     simp only []
     rw [j87 n r (by omega), List.all_cons]
     rfl
theorem fullM_ok (s : List UInt8) : q3l s = (decide (s.length ≤ 100) && okF s) := by rw [q3l, j87 _ s (by omega)]
def dotA : Nat → Int → List UInt8 → Int
 | _, a, [] => a
 | i, a, c :: cs => dotA (i + 1) (if c = 46 then (i : Int) else a) cs
def dotI (s : List UInt8) : Int := dotA 0 (-1) s
theorem j8o : ∀ (l : List UInt8) (i : Nat) (a : Int), (46 ∉ l ∧ dotA i a l = a) ∨ ∃ j : Nat, j < l.length ∧ l[j]? = some 46 ∧ 46 ∉ l.drop (j + 1) ∧ dotA i a l = ((i + j : Nat) : Int)
 | [], i, a => .inl ⟨by simp, rfl⟩
 | c :: cs, i, a => by
   rw [dotA]
   rcases j8o cs (i + 1) (if c = 46 then (i : Int) else a) with ⟨h1, h2⟩ | ⟨j, h0, h1, h2, h3⟩
   · by_cases hc : c = 46
     · rw [if_pos hc] at h2 ⊢
       exact .inr ⟨0, by simp, by simp [hc], by simpa using h1, by rw [h2]; simp⟩
     · rw [if_neg hc] at h2 ⊢
       refine .inl ⟨?_, h2⟩
       intro hm
       rcases List.mem_cons.1 hm with e | hm
       · exact hc e.symm
       · exact h1 hm
   · exact .inr ⟨j + 1, by simp; omega, by simpa using h1, by simpa using h2, by rw [h3]; congr 1; omega⟩
theorem dotI_spec (l : List UInt8) : (46 ∉ l ∧ dotI l = -1) ∨ ∃ j : Nat, j < l.length ∧ dotI l = (j : Int) ∧ l = l.take j ++ 46 :: l.drop (j + 1) ∧ 46 ∉ l.drop (j + 1) := by
 rcases j8o l 0 (-1) with h | ⟨j, h0, h1, h2, h3⟩
 · exact .inl h
 · refine .inr ⟨j, h0, by rw [dotI, h3]; simp, ?_, h2⟩
   obtain ⟨hlt, he⟩ := List.getElem?_eq_some_iff.1 h1
   conv => lhs; rw [← List.take_append_drop j l, List.drop_eq_getElem_cons hlt, he]
/-! Nodes that are met. -/
def metM (ns : List NT) (d p : Nat) : Int := if (q2n ns d p).1 = true then ((q2n ns d p).2 : Int) else -1
/-! Weights by rounds. -/
def wAt (l : List Int) (q : Nat) : Int := match l[q]? with | some n => n | none => 1
theorem j4r {l : List Int} {p : Nat} {v : Int} (h : l[p]? = some v) : wAt l p = v := by rw [wAt, h]
def q1v (ns : List NT) (l : List Int) : List Int := (List.range ns.length).map fun p => q1y (wAt l) (q1t ns p) 1
def WOk (ns : List NT) (l : List Int) : Prop := l.length = ns.length ∧ (∀ x ∈ l, 1 ≤ x ∧ x ≤ 1001) ∧ ∀ p, p < ns.length → wAt l p ≤ q1y (wAt l) (q1t ns p) 1
theorem j7h {ns : List NT} {l : List Int} {p : Nat} (h : p < ns.length) : (q1v ns l)[p]? = some (q1y (wAt l) (q1t ns p) 1) := by
 unfold q1v
 rw [List.getElem?_map, List.getElem?_range h]
 rfl
theorem j4t {ns : List NT} {l : List Int} {p : Nat} (h : p < ns.length) : wAt (q1v ns l) p = q1y (wAt l) (q1t ns p) 1 := j4r (j7h h)
theorem j4s {l : List Int} (h : ∀ x ∈ l, 1 ≤ x ∧ x ≤ 1001) (q : Nat) : 1 ≤ wAt l q ∧ wAt l q ≤ 1001 := by
 unfold wAt
 split
 · rename_i n hn
   exact h n (List.mem_of_getElem? hn)
 · exact ⟨by decide, by decide⟩
theorem wok_one (ns : List NT) : WOk ns (List.replicate ns.length 1) := by
 have hr : ∀ x ∈ List.replicate ns.length (1 : Int), 1 ≤ x ∧ x ≤ 1001 := fun x hx => by
  obtain rfl := (List.mem_replicate.1 hx).2
  exact ⟨by decide, by decide⟩
 refine ⟨by simp, hr, fun p hp => ?_⟩
 have : wAt (List.replicate ns.length 1) p = 1 := j4r (by rw [List.getElem?_replicate, if_pos hp])
 rw [this]
 exact j02 (fun q => (j4s hr q).1) _ _ (by decide)
theorem z2b {ns : List NT} {l : List Int} (h : WOk ns l) : WOk ns (q1v ns l) := by
 obtain ⟨h1, h2, h3⟩ := h
 have hr : ∀ x ∈ q1v ns l, 1 ≤ x ∧ x ≤ 1001 := fun x hx => by
  unfold q1v at hx
  obtain ⟨p, _, rfl⟩ := List.mem_map.1 hx
  exact ⟨j02 (fun q => (j4s h2 q).1) _ _ (by decide), j2d _ _ (by decide)⟩
 refine ⟨by simp [q1v], hr, fun p hp => ?_⟩
 rw [j4t hp]
 refine j5x (fun q => ?_) _ _ _ (Int.le_refl _)
 by_cases hq : q < ns.length
 · rw [j4t hq]
   exact h3 q hq
 · have e1 : wAt l q = 1 := by rw [wAt, List.getElem?_eq_none (by omega)]
   have e2 : wAt (q1v ns l) q = 1 := by rw [wAt, List.getElem?_eq_none (by simp [q1v]; omega)]
   omega
def q61 : List Int → Nat
 | [] => 0
 | x :: xs => (1001 - x).toNat + q61 xs
theorem z18 : ∀ (l l' : List Int), l.length = l'.length → (∀ p, wAt l p ≤ wAt l' p) → q61 l' ≤ q61 l
 | [], [], _, _ => Nat.le_refl _
 | x :: xs, y :: ys, hl, h => by
   have h0 := h 0
   have := z18 xs ys (by simpa using hl) fun p => h (p + 1)
   simp [wAt] at h0
   simp only [q61]
   omega
theorem z19 : ∀ (l l' : List Int), l.length = l'.length → (∀ p, wAt l p ≤ wAt l' p) → (∀ x ∈ l', x ≤ 1001) → l ≠ l' → q61 l' < q61 l
 | [], [], _, _, _, h => absurd rfl h
 | x :: xs, y :: ys, hl, h, hb, hne => by
   have h0 := h 0
   have hy := hb y (by simp)
   have hle := z18 xs ys (by simpa using hl) fun p => h (p + 1)
   simp [wAt] at h0
   simp only [q61]
   by_cases hx : x = y
   · have := z19 xs ys (by simpa using hl) (fun p => h (p + 1)) (fun z hz => hb z (by simp [hz])) fun e => hne (by rw [hx, e])
     omega
   · omega
theorem z62 {ns : List NT} {l : List Int} (h : WOk ns l) (hne : q1v ns l ≠ l) : q61 (q1v ns l) < q61 l := by
 refine z19 l _ (by simp [q1v, h.1]) (fun p => ?_) (fun x hx => ((z2b h).2.1 x hx).2) fun e => hne e.symm
 by_cases hp : p < ns.length
 · rw [j4t hp]
   exact h.2.2 p hp
 · rw [wAt, List.getElem?_eq_none (by have := h.1; omega), wAt, List.getElem?_eq_none (by simp [q1v]; omega)]
   exact Int.le_refl _
theorem j83 {g : Nat → Int} (hg : ∀ q, 1 ≤ g q) : ∀ (xs : List FT) (n : Int), 1 ≤ n → n ≤ 1001 → q1y g xs n < 1001 → ∀ x ∈ xs, g x.type.toNat < q1y g xs n
 | [], n, _, _, _, x, hx => by simp at hx
 | y :: ys, n, h1, h2, h, x, hx => by
   rw [q1y] at h ⊢
   have hgy := hg y.type.toNat
   rcases List.mem_cons.1 hx with rfl | hx
   · have := j02 hg ys (min (n + g x.type.toNat) 1001) (by omega)
     omega
   · exact j83 hg ys _ (by omega) (by omega) h x hx
theorem fix_le {ns : List NT} {G H : Nat → Int} (hG : ∀ p, 1 ≤ G p ∧ G p ≤ 1001) (hH : ∀ p, 1 ≤ H p ∧ H p ≤ 1001) (fG : ∀ p, p < ns.length → G p = q1y G (q1t ns p) 1) (fH : ∀ p, p < ns.length → H p = q1y H (q1t ns p) 1)
  (hr : ∀ p, ∀ x ∈ q1t ns p, x.type.toNat < ns.length) : ∀ (m : Nat) (p : Nat), p < ns.length → G p < 1001 → G p ≤ (m : Int) → H p = G p
 | 0, p, _, _, h => by have := (hG p).1; omega
 | m + 1, p, hp, h1, h2 => by
   rw [fG p hp] at h1 h2 ⊢
   rw [fH p hp]
   refine j82 _ _ fun x hx => ?_
   have := j83 (fun q => (hG q).1) (q1t ns p) 1 (by decide) (by decide) h1 x hx
   exact fix_le hG hH fG fH hr m _ (hr p x hx) (by omega) (by omega)
theorem fix_one {ns : List NT} {G H : Nat → Int} (hG : ∀ p, 1 ≤ G p ∧ G p ≤ 1001) (hH : ∀ p, 1 ≤ H p ∧ H p ≤ 1001) (fG : ∀ p, p < ns.length → G p = q1y G (q1t ns p) 1) (fH : ∀ p, p < ns.length → H p = q1y H (q1t ns p) 1)
  (hr : ∀ p, ∀ x ∈ q1t ns p, x.type.toNat < ns.length) (p : Nat) (hp : p < ns.length) : H p = G p := by
 by_cases h1 : G p < 1001
 · exact fix_le hG hH fG fH hr 1001 p hp h1 (hG p).2
 · by_cases h2 : H p < 1001
   · exact (fix_le hH hG fH fG hr 1001 p hp h2 (hH p).2).symm
   · have := (hG p).2
     have := (hH p).2
     omega
theorem wok_G {ns : List NT} {G : Nat → Int} {l : List Int} (hG : IsG ns G) (hr : ∀ p, ∀ x ∈ q1t ns p, x.type.toNat < ns.length) (h : WOk ns l) (he : q1v ns l = l) (p : Nat) (hp : p < ns.length) : l[p]? = some (G p) := by
 have hlt : p < l.length := by rw [h.1]; exact hp
 have e : l[p]? = some (wAt l p) := by
  rw [List.getElem?_eq_getElem hlt]
  congr 1
  exact (j4r (List.getElem?_eq_getElem hlt)).symm
 rw [e]
 congr 1
 exact fix_one hG.range (fun q => j4s h.2.1 q) hG.fix (fun q hq => by rw [← j4t hq, he]) hr p hp
theorem j99 {ns : List NT} {G : Nat → Int} (hG : IsG ns G) (hr : ∀ p, ∀ x ∈ q1t ns p, x.type.toNat < ns.length) : ∀ (r : List NT) (p : Nat) (kn : List Int), p + r.length = ns.length → kn.length = ns.length → KnOk kn → (∀ (j : Nat) (v : Int), kn[j]? = some v → 0 < v → v = G j) → (∀ (j : Nat) (v : Int), kn[j]? = some v → ¬ v < 0) →
  (q4a ns r p kn = true ↔ (∀ n ∈ r, q2h ns n = true) ∧ ∀ i, p ≤ i → i < ns.length → G i ≤ 1000)
 | [], p, kn, hl, _, _, _, _ => by
   simp at hl
   simp only [q4a, true_iff]
   exact ⟨by simp, fun i h1 h2 => by omega⟩
 | n :: r, p, kn, hl, h1, h2, h3, h4 => by
   rw [q4a]
   simp only [Bool.and_eq_true, decide_eq_true_eq]
   simp at hl
   have hc := List.count_le_length (a := (0 : Int)) (l := kn)
   obtain ⟨e, hk⟩ := z14 hG hr (ns.length + 1) p kn (by omega) (memo_none h1 h2 h3 h4 p) (by omega)
   rw [e, j99 hG hr r (p + 1) _ (by omega) hk.len hk.ok hk.pos (fun j v hj hv => by
       obtain ⟨u, hu, hu0⟩ := hk.neg j v hj hv
       exact h4 j u hu hu0)]
   constructor
   · rintro ⟨a, b, c, d⟩
     refine ⟨fun m hm => ?_, fun i hi hi2 => ?_⟩
     · rcases List.mem_cons.1 hm with rfl | hm
       · exact a
       · exact c m hm
     · by_cases hip : i = p
       · rw [hip]; exact b
       · exact d i (by omega) hi2
   · rintro ⟨a, b⟩
     exact ⟨a n (by simp), b p (Nat.le_refl _) (by omega), fun m hm => a m (by simp [hm]), fun i hi hi2 => b i (by omega) hi2⟩
theorem rightM_eq {s : ST} {G : Nat → Int} (hG : IsG s.nodes G) (hr : ∀ p, ∀ x ∈ q1t s.nodes p, x.type.toNat < s.nodes.length) :
  q1s s = true ↔ q38 s = true ∧ (∀ n ∈ s.nodes, q2h s.nodes n = true) ∧ (∀ i, i < s.nodes.length → G i ≤ 1000) ∧ (q1u s.nodes).Nodup := by
 have hz : ∀ (j : Nat) (v : Int), (List.replicate s.nodes.length (0 : Int))[j]? = some v → v = 0 := fun j v hj => (List.mem_replicate.1 (List.mem_of_getElem? hj)).2
 have h := j99 hG hr s.nodes 0 (List.replicate s.nodes.length 0) (by simp) (by simp) (fun x hx => by obtain rfl := (List.mem_replicate.1 hx).2; decide) (fun j v hj hv => by have := hz j v hj; omega) (fun j v hj => by have := hz j v hj; omega)
 unfold q1s q3k
 simp only [Bool.and_eq_true, decide_eq_true_eq, h, List.all_eq_true]
 constructor
 · rintro ⟨a, ⟨b, c⟩, d, e⟩
   exact ⟨a, b, fun i hi => c i (Nat.zero_le _) hi, e⟩
 · rintro ⟨a, b, c, d⟩
   refine ⟨a, ⟨b, fun i _ hi => c i hi⟩, fun x hx => ?_, d⟩
   obtain ⟨n, hn, rfl⟩ := List.mem_map.1 hx
   obtain ⟨hn1, hn2⟩ := List.mem_filter.1 hn
   have := b n hn1
   unfold q2h at this
   simp only [Bool.and_eq_true] at this
   have h2 := this.2.1
   rw [hn2] at h2
   simp only [Bool.not_true, Bool.false_or, Bool.and_eq_true] at h2
   exact h2.1

theorem z0f (c : UInt8) : Told Tryz.prog 215 [.c (.v (.int .u8 (c.toNat : Int)))] (.c (.v (.bool (q4g c)))) := by
 obtain ⟨V, hV⟩ : ∃ V, V = q4g c := ⟨_, rfl⟩
 rw [← hV]
 obtain ⟨y, hy⟩ : ∃ y : Int, y = (c.toNat : Int) := ⟨_, rfl⟩
 rw [← hy]
 have hv : V = ((decide (y ≥ 97) && decide (y ≤ 122)) || ((decide (y ≥ 65) && decide (y ≤ 90)) || (y == 95))) := by
  have e : (y == 95) = decide (c.toNat = 95) := by
   rw [hy]
   by_cases h : c.toNat = 95
   · simp [h]
   · have : ¬ ((c.toNat : Int) = 95) := by omega
     simp [h, this]
  rw [hV, q4g, e, hy]
  congr 1
  · congr 1 <;> simp <;> omega
  · congr 1
    congr 1 <;> simp <;> omega
 clear hV hy
 replace hv := Lib.hid hv
 refine VC.toldP ent_215 Tryz.func215 rfl Tryz.ntmps215 fun hb => ?_
 clear hb
 refine q0c (@lAss) ?_
 refine retX Tryz.results215 ?_
 have hv2 : V = ((decide (y ≥ 97) && decide (y ≤ 122)) || (decide (y ≥ 65) && decide (y ≤ 90)) || (y == 95)) := by rw [hv.out, Bool.or_assoc]
 rw [hv2]
 exact .c _
theorem z4r (c : UInt8) : Told Tryz.prog 216 [.c (.v (.int .u8 (c.toNat : Int)))] (.c (.v (.bool (q6o c)))) := by
 have e : q6o c = (decide ((c.toNat : Int) ≥ 48) && decide ((c.toNat : Int) ≤ 57)) := by
  unfold q6o
  congr 1 <;> simp <;> omega
 rw [e]
 refine VC.toldP ent_216 Tryz.func216 rfl Tryz.ntmps216 fun hb => ?_
 clear hb
 refine q0b ?_
 refine retX Tryz.results216 ?_
 exact .c _
theorem j6m (s : List UInt8) (hs : s.length ≤ 1000000000) : Told Tryz.prog 188 [.c (.v (.string (str s)))] (.c (.v (.bool (q11 s)))) := by
 obtain ⟨V, hV⟩ : ∃ V, V = q11 s := ⟨_, rfl⟩
 rw [← hV]
 cases s with
 | nil =>
   obtain rfl : V = false := by rw [hV]; rfl
   refine VC.toldP j5n Tryz.func188 rfl Tryz.ntmps188 fun hb => ?_
   clear hb
   refine q0a (@q2a) ?_
   refine retX Tryz.results188 ?_
   exact .c _
 | cons c cs =>
 obtain ⟨l, hll⟩ : ∃ l, l = c :: cs := ⟨_, rfl⟩
 have hpos : 0 < l.length := by rw [hll]; simp
 have e2 : ((l.length : Int) == 0) = false := beq_eq_false_iff_ne.2 (by omega)
 have hc0 : l[0]? = some c := by rw [hll]; rfl
 rw [← hll] at hV hs ⊢
 by_cases hl : l.length ≤ 100
 rotate_left
 · obtain rfl : V = false := by rw [hV, q11, decide_eq_false hl]; rfl
   have e1 : decide ((l.length : Int) > 100) = true := by simp; omega
   refine VC.toldP j5n Tryz.func188 rfl Tryz.ntmps188 fun hb => ?_
   clear hb
   refine q0a (And.intro @q2a (And.intro e1 e2)) ?_
   refine retX Tryz.results188 ?_
   exact .c _
 have e1 : decide ((l.length : Int) > 100) = false := by simp; omega
 have hL := z0f c
 have hv : V = (q4g c && l.all fun c => q4g c || q6o c) := by
  rw [hV, q11, decide_eq_true hl, Bool.true_and, hll]
  simp only [q4d, List.all_cons]
  cases q4g c <;> simp
 clear hV hll
 obtain ⟨bl, hbl⟩ : ∃ b, b = q4g c := ⟨_, rfl⟩
 rw [← hbl] at hL hv
 refine VC.toldP j5n Tryz.func188 rfl Tryz.ntmps188 fun hb => ?_
 clear hb
 refine q0c (And.intro @q2a (And.intro e1 (And.intro e2 (And.intro @q6s hc0)))) ?_
 refine q0j (hL) ?_
 refine q0b ?_
 refine VC.cond (by rfl) (by trivial) (fun hc => ?_) (fun hc => ?_)
 · obtain rfl : V = false := by
    rw [hv]
    have : bl = false := by simpa using hc
    rw [this]
    rfl
   refine q0b ?_
   refine retX Tryz.results188 ?_
   exact .c _
 have hbt : bl = true := by simpa using hc
 subst hbt
 rw [Bool.true_and] at hv
 refine q0c (@q2a) ?_
 refine VC.loop (ι := {i : Nat // i ≤ l.length ∧ ∀ (j : Nat) (c : UInt8), j < i → l[j]? = some c → (q4g c || q6o c) = true})
  (fun q => [(0, .c (.v (.string (str l)))), (3, .c (.v (.int .i64 (q.1 : Int))))]) (fun _ => []) 800 (fun q => l.length - q.1) ⟨0, Nat.zero_le _, fun j c h => by omega⟩ ?_ ?_
 · exact q2z
 rintro ⟨i, hi, ht⟩
 simp only []
 refine q0c (@q2a) ?_
 refine VC.cond (by rfl) (by trivial) (fun hc => ?_) (fun hc => ?_)
 · have hlt : i < l.length := by simp at hc; omega
   obtain ⟨d, hx⟩ : ∃ d, l[i]? = some d := ⟨l[i], List.getElem?_eq_getElem hlt⟩
   have hw : IntKind.i64.wrap ((i : Int) + 1) = (i : Int) + 1 := q0f (by omega) (by omega)
   have hL := z0f d
   have hD := z4r d
   obtain ⟨b1, hb1⟩ : ∃ b, b = q4g d := ⟨_, rfl⟩
   obtain ⟨b2, hb2⟩ : ∃ b, b = q6o d := ⟨_, rfl⟩
   rw [← hb1] at hL
   rw [← hb2] at hD
   refine q0c (And.intro @q2a (And.intro @q6s hx)) ?_
   refine q0j (hL) ?_
   refine q0c (And.intro @q2a (And.intro @q6s hx)) ?_
   refine q2m (hD) ?_
   refine q0b ?_
   refine VC.cond (by rfl) (by trivial) (fun hc2 => ?_) (fun hc2 => ?_)
   · have hf : V = false := by
      rw [hv, List.all_eq_false]
      refine ⟨d, List.mem_of_getElem? hx, ?_⟩
      rw [← hb1, ← hb2]
      cases b1 <;> cases b2 <;> simp at hc2 ⊢
     subst hf
     refine q0b ?_
     refine retX Tryz.results188 ?_
     exact .c _
   · refine q0c (hw) ?_
     refine .next ⟨i + 1, by omega, ?_⟩ ?_ (by simp only []; omega)
     · intro j e hj he
       by_cases hji : j < i
       · exact ht j e hji he
       · obtain rfl : j = i := by omega
         rw [hx] at he
         obtain rfl := Option.some.inj he
         rw [← hb1, ← hb2]
         cases b1 <;> cases b2 <;> simp at hc2 ⊢
     simp only [Weak, eq_self, q0v, q0p, sc_c, q0r, q0s, q0t, q0o, q0q, ScL, q0u, List.forall_mem_map, go_sem, Int.reduceBEq, Int.reduceLE, Int.reduceLT, Int.reduceNeg, Nat.reduceAdd, Nat.reduceEqDiff, Nat.reduceLT, Nat.reduceLeDiff, Nat.reduceMul, Nat.reduceSub, reduceCtorEq, ↓reduceIte]
     try exact cI (by omega)
 · have hie : i = l.length := by simp at hc; omega
   have hf : V = true := by
    rw [hv, List.all_eq_true]
    intro e he
    obtain ⟨j, hj⟩ := List.getElem?_of_mem he
    exact ht j e (by have := (List.getElem?_eq_some_iff.1 hj).1; omega) hj
   subst hf
   refine q0b ?_
   refine retX Tryz.results188 ?_
   exact .c _
theorem rdot_told (s : List UInt8) (hs : s.length ≤ 1000000000) : Told Tryz.prog 149 [.c (.v (.string (str s)))] (.c (.v (.int .i64 (dotI s)))) := by
 obtain ⟨V, hV⟩ : ∃ V, V = dotI s := ⟨_, rfl⟩
 rw [← hV]
 unfold dotI at hV
 refine VC.toldP ent_149 Tryz.func149 rfl Tryz.ntmps149 fun hb => ?_
 clear hb
 refine q0b ?_
 refine VC.loop (ι := {x : Nat × Int // x.1 ≤ s.length ∧ dotA x.1 x.2 (s.drop x.1) = V})
  (fun q => [(0, .c (.v (.string (str s)))), (3, .c (.v (.int .i64 q.1.2))), (4, .c (.v (.int .i64 (q.1.1 : Int))))]) (fun _ => []) 800 (fun q => s.length - q.1.1) ⟨(0, -1), Nat.zero_le _, by simpa using hV.symm⟩ ?_ ?_
 · exact q2z
 rintro ⟨⟨i, a⟩, hi, hv⟩
 simp only [] at hi hv ⊢
 refine q0c (@q2a) ?_
 refine VC.cond (by rfl) (by trivial) (fun hc => ?_) (fun hc => ?_)
 · have hlt : i < s.length := by simp at hc; omega
   obtain ⟨d, hx⟩ : ∃ d, s[i]? = some d := ⟨s[i], List.getElem?_eq_getElem hlt⟩
   have hw : IntKind.i64.wrap ((i : Int) + 1) = (i : Int) + 1 := q0f (by omega) (by omega)
   rw [(List.drop_eq_getElem_cons hlt).trans (by rw [(List.getElem?_eq_some_iff.1 hx).2] : _ = d :: s.drop (i + 1)), dotA] at hv
   refine q0c (And.intro @q2a (And.intro @q6s hx)) ?_
   refine VC.cond (by rfl) (by trivial) (fun hc2 => ?_) (fun hc2 => ?_)
   · have hd : d = 46 := by
      simp at hc2
      exact UInt8.toNat_inj.1 (by simp; omega)
     rw [if_pos hd] at hv
     refine q0c (hw) ?_
     refine .next ⟨(i + 1, (i : Int)), by simp only []; omega, hv⟩ ?_ (by simp only []; omega)
     simp only [Weak, eq_self, q0v, q0p, sc_c, q0r, q0s, q0t, q0o, q0q, ScL, q0u, List.forall_mem_map, go_sem, Int.reduceBEq, Int.reduceLE, Int.reduceLT, Int.reduceNeg, Nat.reduceAdd, Nat.reduceEqDiff, Nat.reduceLT, Nat.reduceLeDiff, Nat.reduceMul, Nat.reduceSub, reduceCtorEq, ↓reduceIte]
     try exact cI (by omega)
   · have hd : d ≠ 46 := by
      rintro rfl
      simp at hc2
     rw [if_neg hd] at hv
     refine q0c (hw) ?_
     refine .next ⟨(i + 1, a), by simp only []; omega, hv⟩ ?_ (by simp only []; omega)
     simp only [Weak, eq_self, q0v, q0p, sc_c, q0r, q0s, q0t, q0o, q0q, ScL, q0u, List.forall_mem_map, go_sem, Int.reduceBEq, Int.reduceLE, Int.reduceLT, Int.reduceNeg, Nat.reduceAdd, Nat.reduceEqDiff, Nat.reduceLT, Nat.reduceLeDiff, Nat.reduceMul, Nat.reduceSub, reduceCtorEq, ↓reduceIte]
     try exact cI (by omega)
 · have hie : i = s.length := by simp at hc; omega
   have hf : V = a := by rw [← hv, hie, List.drop_length, dotA]
   subst hf
   refine q0b ?_
   refine retX Tryz.results149 ?_
   exact .c _
theorem j98 (s : List UInt8) (hs : s.length ≤ 1000000000) : Told Tryz.prog 145 [.c (.v (.string (str s)))] (.c (.v (.bool (q3l s)))) := by
 obtain ⟨V, hV⟩ : ∃ V, V = q3l s := ⟨_, rfl⟩
 rw [← hV]
 rw [fullM_ok] at hV
 refine VC.toldP ent_145 Tryz.func145 rfl Tryz.ntmps145 fun hb => ?_
 clear hb
 refine q0c (@q2a) ?_
 refine VC.cond (by rfl) (by trivial) (fun hc => ?_) (fun hc => ?_)
 · have hf : V = false := by
    have : ¬ (s.length ≤ 100) := by simp at hc; omega
    rw [hV]
    simp [this]
   subst hf
   refine q0b ?_
   refine retX Tryz.results145 ?_
   exact .c _
 have hl : s.length ≤ 100 := by simp at hc; omega
 have hv : okF s = V := by rw [hV]; simp [hl]
 clear hV hc
 refine q0b ?_
 refine VC.loop (ι := {l : List UInt8 // l.length ≤ 100 ∧ okF l = V}) (fun q => [(0, .c (.v (.string (str q.1))))]) (fun _ => []) 800 (fun q => q.1.length) ⟨s, hl, hv⟩ ?_ ?_
 · exact q2z
 rintro ⟨l, hl, hv⟩
 simp only []
 have hD := rdot_told l (by omega)
 refine q0b ?_
 refine q0j (hD) ?_
 rcases dotI_spec l with ⟨h1, h2⟩ | ⟨j, hj, h2, h3, h4⟩
 · rw [okF_none h1] at hv
   have hS := j6m l (by omega)
   have hsv : q11 l = V := by rw [q11, ← hv]; simp [hl]
   rw [hsv] at hS
   rw [h2] at hD ⊢
   refine q0m ?_
   refine q0j (hS) ?_
   refine q0b ?_
   refine retX Tryz.results145 ?_
   exact .c _
 · rw [h2] at hD ⊢
   obtain ⟨t, htt⟩ : ∃ t, t = l.drop (j + 1) := ⟨_, rfl⟩
   have htl : t.length ≤ 100 := by rw [htt, List.length_drop]; omega
   have hS := j6m t (by omega)
   have hsv : q11 t = q4d t := by rw [q11]; simp [htl]
   rw [hsv] at hS
   have hv2 : (okF (l.take j) && q4d t) = V := by
    rw [← okF_dot (by rw [htt]; exact h4), htt, ← h3]
    exact hv
   obtain ⟨b, hbb⟩ : ∃ b, b = q4d t := ⟨_, rfl⟩
   rw [← hbb] at hS hv2
   have hd : decide ((j : Int) ≥ 0) = true := by simp
   have hw : IntKind.i64.wrap ((j : Int) + 1) = (j : Int) + 1 := q0f (by omega) (by omega)
   have ht : ((j : Int) + 1).toNat = j + 1 := by omega
   have hx1 : (str l).extract 0 j = str (l.take j) := by rw [j4h, List.drop_zero]
   have hx2 : (str l).extract (j + 1) l.length = str t := by rw [j4h, List.take_length, htt]
   refine q0a (hd) ?_
   refine q0j (hD) ?_
   refine q0c (And.intro hw (And.intro @q2a (And.intro ht hx2))) ?_
   refine q0j (hS) ?_
   refine q0b ?_
   refine VC.cond (by rfl) (by trivial) (fun hc => ?_) (fun hc => ?_)
   · have hf : V = false := by
      have : b = false := by simpa using hc
      rw [← hv2, this]
      simp
     subst hf
     refine q0b ?_
     refine retX Tryz.results145 ?_
     exact .c _
   · have hbt : b = true := by simpa using hc
     rw [hbt, Bool.and_true] at hv2
     refine q0b ?_
     refine q0j (hD) ?_
     refine q0c (And.intro @q2a hx1) ?_
     refine .next ⟨l.take j, by rw [List.length_take]; omega, hv2⟩ ?_ (by simp only [List.length_take]; omega)
     exact q2z
theorem z5r (k : Nat) (hk : k ≤ 14) (w : List UInt8) (hw : q3s[k]? = some w) : Told Tryz.prog 95 [.c (.v (.int .i64 (k : Int)))] (.c (.v (.string (str w)))) := by
 rcases (by omega : k = 0 ∨ k = 1 ∨ k = 2 ∨ k = 3 ∨ k = 4 ∨ k = 5 ∨ k = 6 ∨ k = 7 ∨ k = 8 ∨ k = 9 ∨ k = 10 ∨ k = 11 ∨ k = 12 ∨ k = 13 ∨ k = 14) with rfl | rfl | rfl | rfl | rfl | rfl | rfl | rfl | rfl | rfl | rfl | rfl | rfl | rfl | rfl
 all_goals
  obtain rfl := Option.some.inj hw
  refine VC.toldP ent_95 Tryz.func95 rfl Tryz.ntmps95 fun hb => ?_
  clear hb
  refine q0m ?_
  refine retX Tryz.results95 ?_
  exact .c _
theorem z4x (s : List UInt8) : Told Tryz.prog 146 [.c (.v (.string (str s)))] (.c (.v (.int .i64 (q5u s : Int)))) := by
 obtain ⟨V, hV⟩ : ∃ V, V = q5u s := ⟨_, rfl⟩
 rw [← hV]
 refine VC.toldP ent_146 Tryz.func146 rfl Tryz.ntmps146 fun hb => ?_
 clear hb
 have hE : (⟨#[]⟩ : ByteArray).toList = [] := q17 []
 have hkl : q3s.length = 15 := rfl
 refine q0b ?_
 refine VC.loop (ι := {i : Nat // 1 ≤ i ∧ i ≤ 15 ∧ ∀ (j : Nat) (w : List UInt8), j < i → q3s[j]? = some w → s ≠ [] → w ≠ s}) (fun q => [(0, .c (.v (.string (str s)))), (3, .c (.v (.int .i64 (q.1 : Int))))]) (fun _ => []) 800 (fun q => 15 - q.1)
  ⟨1, by omega, by omega, fun j w h hj hs => by
   obtain rfl : j = 0 := by omega
   obtain rfl := Option.some.inj hj
   exact fun e => hs e.symm⟩ ?_ ?_
 · exact q2z
 rintro ⟨i, hi0, hi, ht⟩
 simp only []
 refine q0b ?_
 refine VC.cond (by rfl) (by trivial) (fun hc => ?_) (fun hc => ?_)
 · have hlt : i < 15 := by simp at hc; omega
   obtain ⟨w, hx⟩ : ∃ w, q3s[i]? = some w := ⟨q3s[i]'(by omega), List.getElem?_eq_getElem (by omega)⟩
   have hw : IntKind.i64.wrap ((i : Int) + 1) = (i : Int) + 1 := q0f (by omega) (by omega)
   have hW := z5r i (by omega) w hx
   refine q0c (And.intro @q17 hE) ?_
   refine q2m (hW) ?_
   refine q0c (And.intro @q17 hE) ?_
   refine VC.cond (by rfl) (by trivial) (fun hc2 => ?_) (fun hc2 => ?_)
   · have hh : s ≠ [] ∧ w = s := by simpa using hc2
     have hf : V = i := by
      rw [hV, q5u, if_neg hh.1]
      have : q3s.findIdx? (· == s) = some i := by
       rw [List.findIdx?_eq_some_iff_getElem]
       refine ⟨by omega, ?_, fun j hj => ?_⟩
       · have := (List.getElem?_eq_some_iff.1 hx).2
         simp [this, hh.2]
       · have := ht j _ hj (List.getElem?_eq_getElem (by omega)) hh.1
         simpa using this
      rw [this]
     subst hf
     refine q0b ?_
     refine retX Tryz.results146 ?_
     exact .c _
   · have hh : ¬ (s ≠ [] ∧ w = s) := by simpa using hc2
     refine q0c (hw) ?_
     refine .next ⟨i + 1, by omega, by omega, ?_⟩ ?_ (by simp only []; omega)
     · intro j u hj hu hs
       by_cases hji : j < i
       · exact ht j u hji hu hs
       · obtain rfl : j = i := by omega
         rw [hx] at hu
         obtain rfl := Option.some.inj hu
         exact fun e => hh ⟨hs, e⟩
     refine q5b ?_
     exact cI (by omega)
 · have hie : i = 15 := by simp at hc; omega
   have hf : V = 0 := by
    rw [hV, q5u]
    split
    · rfl
    · rename_i hs
      have : q3s.findIdx? (· == s) = none := by
       rw [List.findIdx?_eq_none_iff]
       intro w hw
       obtain ⟨j, hj⟩ := List.getElem?_of_mem hw
       have := ht j w (by have := (List.getElem?_eq_some_iff.1 hj).1; omega) hj hs
       simpa using this
      rw [this]
   subst hf
   refine q0b ?_
   refine retX Tryz.results146 ?_
   exact .c _

theorem z0i : ∀ (m : Nat) (a b : JT), SizeOf.sizeOf a ≤ m → Told Tryz.prog 24 [a.av, b.av] (.c (.v (.bool (jeq a b)))) := by
 intro m
 induction m with
 | zero => intro a b ha; cases a; simp at ha
 | succ m ih =>
 intro a b ha
 cases a with
 | mk k n s ks xs =>
 cases b with
 | mk k' n' s' ks' xs' =>
 refine VC.told ent_24 Tryz.func24 rfl Tryz.ntmps24 (by simp) rfl rfl fun hb => ?_
 simp only [JT.av, q0n, List.map_cons, List.map_nil, j2t, q5n, pbd_v, q5x, List.mem_cons, List.not_mem_nil, or_false, forall_eq_or_imp, forall_eq, true_and, List.length_map] at hb ⊢
 have hx1 := hb.1.1.1
 have hk1 := hb.1.2.1
 clear hb
 refine q0c (@q17) ?_
 refine VC.cond (by rfl) (by trivial) (fun hc => ?_) (fun hc => ?_)
 · have hne : jeq (.mk k n s ks xs) (.mk k' n' s' ks' xs') = false := by
    rw [j54]
    intro e
    injection e with e1 e2 e3 e4 e5
    subst e1 e2 e3 e4 e5
    simp at hc
   refine q0b ?_
   refine ⟨.inr rfl, ?_⟩
   rw [Tryz.results24, hne]
   simp only [q1f, resV, go_sem, simprocAttr]
   exact .c _
 · simp only [Bool.or_eq_false_iff, bne_eq_false_iff_eq, Bool.not_eq_false', beq_iff_eq] at hc
   obtain ⟨⟨⟨⟨rfl, rfl⟩, rfl⟩, hkl⟩, hxl⟩ := hc
   have hkl : ks.length = ks'.length := by omega
   have hxl : xs.length = xs'.length := by omega
   refine q0b ?_
   refine VC.loop (ι := {i : Nat // i ≤ ks.length ∧ ks.take i = ks'.take i}) (fun i => [(2, .ref 0 1 0 0), (3, .ref 8 1 0 0), (5, .c (.v (.int .i64 i.1)))])
    (fun _ => [(0, ⟨false, 36, 5, [(JT.mk k n s ks xs).cells.map .c]⟩), (8, ⟨false, 36, 5, [(JT.mk k n s ks' xs').cells.map .c]⟩)]) 16 (fun i => ks.length - i.1) ⟨0, Nat.zero_le _, rfl⟩ ?_ ?_
   · simp only [q0n, Weak, eq_self, q0v, q0p, sc_c, q0r, q0s, q0t, q0o, q0q, ScL, q0u, List.forall_mem_map, go_sem, Int.reduceBEq, Int.reduceLE, Int.reduceLT, Int.reduceNeg, Nat.reduceAdd, Nat.reduceEqDiff, Nat.reduceLT, Nat.reduceLeDiff, Nat.reduceMul, Nat.reduceSub, reduceCtorEq, ↓reduceIte]
     all_goals rfl
   rintro ⟨i, hi, ht⟩
   refine q0c (@q0n) ?_
   refine VC.cond (by rfl) (by trivial) (fun hc => ?_) (fun hc => ?_)
   · simp only [decide_eq_true_eq] at hc
     obtain ⟨x, hx⟩ : ∃ x, ks[i]? = some x := ⟨ks[i], List.getElem?_eq_getElem (by omega)⟩
     obtain ⟨y, hy⟩ : ∃ y, ks'[i]? = some y := ⟨ks'[i], List.getElem?_eq_getElem (by omega)⟩
     have hw : IntKind.i64.wrap ((i : Int) + 1) = (i : Int) + 1 := q0f (by omega) (by omega)
     have htn := z00 hx hy ht
     refine q0c (And.intro @q0n (And.intro @q4t (And.intro hx (And.intro hy (And.intro @q4c @q17))))) ?_
     refine VC.cond (by rfl) (by trivial) (fun hc2 => ?_) (fun hc2 => ?_)
     · have hne : jeq (.mk k n s ks xs) (.mk k n s ks' xs') = false := by
        rw [j54]
        intro e
        injection e with e1 e2 e3 e4 e5
        subst e4
        rw [hx] at hy
        obtain rfl := Option.some.inj hy
        simp at hc2
       refine q0b ?_
       refine ⟨.inr rfl, ?_⟩
       rw [Tryz.results24, hne]
       simp only [q1f, resV, go_sem, simprocAttr]
       exact .c _
     · have hxy : x = y := by simpa using hc2
       refine q0c (hw) ?_
       refine .next ⟨i + 1, by omega, htn.2 hxy⟩ ?_ (by simp only []; omega)
       refine q1j (@q0n) ?_
       exact cI (by omega)
   · simp only [decide_eq_false_iff_not] at hc
     obtain rfl : i = ks.length := by omega
     have hke : ks = ks' := by
      rw [List.take_length, hkl, List.take_length] at ht
      exact ht
     subst hke
     refine q0b ?_
     refine VC.loop (ι := {i : Nat // i ≤ xs.length ∧ xs.take i = xs'.take i}) (fun i => [(2, .ref 0 1 0 0), (3, .ref 8 1 0 0), (6, .c (.v (.int .i64 i.1)))])
      (fun _ => [(0, ⟨false, 36, 5, [(JT.mk k n s ks xs).cells.map .c]⟩), (8, ⟨false, 36, 5, [(JT.mk k n s ks xs').cells.map .c]⟩)]) 16 (fun i => xs.length - i.1) ⟨0, Nat.zero_le _, rfl⟩ ?_ ?_
     · simp only [q0n, Weak, eq_self, q0v, q0p, sc_c, q0r, q0s, q0t, q0o, q0q, ScL, q0u, List.forall_mem_map, go_sem, Int.reduceBEq, Int.reduceLE, Int.reduceLT, Int.reduceNeg, Nat.reduceAdd, Nat.reduceEqDiff, Nat.reduceLT, Nat.reduceLeDiff, Nat.reduceMul, Nat.reduceSub, reduceCtorEq, ↓reduceIte]
       all_goals rfl
     rintro ⟨i, hi, ht⟩
     refine q0c (@q0n) ?_
     refine VC.cond (by rfl) (by trivial) (fun hc => ?_) (fun hc => ?_)
     · simp only [decide_eq_true_eq] at hc
       obtain ⟨x, hx⟩ : ∃ x, xs[i]? = some x := ⟨xs[i], List.getElem?_eq_getElem (by omega)⟩
       obtain ⟨y, hy⟩ : ∃ y, xs'[i]? = some y := ⟨xs'[i], List.getElem?_eq_getElem (by omega)⟩
       have hw : IntKind.i64.wrap ((i : Int) + 1) = (i : Int) + 1 := q0f (by omega) (by omega)
       have hcl := ih x y (by
        have h1 := List.sizeOf_lt_of_mem (List.mem_of_getElem? hx)
        simp at ha
        omega)
       refine q0c (And.intro @q0n (And.intro @q4t (And.intro hx (And.intro hy (And.intro @q1z (And.intro @q18 @q19)))))) ?_
       (refine AO.step fun K hK => ?_; simp only [go_sem, Int.reduceBEq, Int.reduceLE, Int.reduceLT, Int.reduceNeg, Nat.reduceAdd, Nat.reduceEqDiff, Nat.reduceLT, Nat.reduceLeDiff, Nat.reduceMul, Nat.reduceSub, reduceCtorEq, ↓reduceIte, q02]; (first | refine q1k ?_ | skip))
       refine .inl ⟨_, hcl, hK _ _ _ ?_⟩
       clear hK K
       refine q0b ?_
       refine VC.cond (by rfl) (by trivial) (fun hc2 => ?_) (fun hc2 => ?_)
       · have hne : jeq (.mk k n s ks xs) (.mk k n s ks xs') = false := by
          rw [j54]
          intro e
          injection e with e1 e2 e3 e4 e5
          subst e5
          rw [hx] at hy
          obtain rfl := Option.some.inj hy
          rw [j3s] at hc2
          simp at hc2
         refine q0b ?_
         refine ⟨.inr rfl, ?_⟩
         rw [Tryz.results24, hne]
         simp only [q1f, resV, go_sem, simprocAttr]
         exact .c _
       · have hxy : x = y := by
          rw [← j2e]
          simpa using hc2
         refine q0c (hw) ?_
         refine .next ⟨i + 1, by omega, ?_⟩ ?_ (by simp only []; omega)
         · rw [List.take_add_one, List.take_add_one, hx, hy, ht, hxy]
         refine q1j (@q0n) ?_
         exact cI (by omega)
     · simp only [decide_eq_false_iff_not] at hc
       obtain rfl : i = xs.length := by omega
       have heq : xs = xs' := by
        rw [List.take_length, hxl, List.take_length] at ht
        exact ht
       subst heq
       refine q0b ?_
       refine ⟨.inr rfl, ?_⟩
       rw [Tryz.results24, j3s]
       simp only [q1f, resV, go_sem, simprocAttr]
       exact .c _

theorem j6x {α : Type} {ks ls : List α} {i : Nat} {x y : α} (hx : ks[i]? = some x) (hy : ls[i]? = some y) (h : ks.take i = ls.take i) (e : x = y) : ks.take (i + 1) = ls.take (i + 1) := by
 rw [List.take_add_one, List.take_add_one, hx, hy, h, e]
theorem ne_at {α : Type} {ks ls : List α} {i : Nat} {x y : α} (hx : ks[i]? = some x) (hy : ls[i]? = some y) (h : x ≠ y) : ks ≠ ls := by
 rintro rfl
 rw [hx] at hy
 exact h (Option.some.inj hy)
theorem j6u {α : Type} {ks ls : List α} {i : Nat} (h : ks.take i = ls.take i) (h1 : i = ks.length) (h2 : ks.length = ls.length) : ks = ls := by
 rw [h1, List.take_length, h2, List.take_length] at h
 exact h
theorem j6o (ks ls : List (List UInt8)) : Told Tryz.prog 50 [.c (.sl 1 (ks.map sPV)), .c (.sl 1 (ls.map sPV))] (.c (.v (.bool (ks == ls)))) := by
 obtain ⟨V, hV⟩ : ∃ V, V = (ks == ls) := ⟨_, rfl⟩
 rw [← hV]
 refine VC.toldP ent_50 Tryz.func50 rfl Tryz.ntmps50 fun hb => ?_
 simp only [q5n, q5x, List.mem_cons, List.not_mem_nil, or_false, forall_eq_or_imp, forall_eq, true_and, List.length_map] at hb
 have hkb := hb.1.1
 clear hb
 refine q0b ?_
 refine VC.cond (by rfl) (by trivial) (fun hc => ?_) (fun hc => ?_)
 · have hf : V = false := by
    rw [hV, beq_eq_false_iff_ne]
    rintro rfl
    simp at hc
   subst hf
   refine q0b ?_
   refine retX Tryz.results50 ?_
   exact .c _
 have hll : ks.length = ls.length := by simp at hc; omega
 refine q0b ?_
 refine VC.loop (ι := {i : Nat // i ≤ ks.length ∧ ks.take i = ls.take i}) (fun q => [(0, .c (.sl 1 (ks.map sPV))), (1, .c (.sl 1 (ls.map sPV))), (5, .c (.v (.int .i64 (q.1 : Int))))]) (fun _ => []) 800 (fun q => ks.length - q.1) ⟨0, Nat.zero_le _, rfl⟩ ?_ ?_
 · exact q2z
 rintro ⟨i, hi, ht⟩
 simp only []
 refine q0b ?_
 refine VC.cond (by rfl) (by trivial) (fun hc2 => ?_) (fun hc2 => ?_)
 · have hlt : i < ks.length := by simp at hc2; omega
   obtain ⟨x, hx⟩ : ∃ x, ks[i]? = some x := ⟨ks[i], List.getElem?_eq_getElem hlt⟩
   obtain ⟨y, hy⟩ : ∃ y, ls[i]? = some y := ⟨ls[i]'(by omega), List.getElem?_eq_getElem (by omega)⟩
   have hw : IntKind.i64.wrap ((i : Int) + 1) = (i : Int) + 1 := q0f (by omega) (by omega)
   have hxp : (ks.map sPV)[i]? = some (sPV x) := by rw [List.getElem?_map, hx]; rfl
   have hyp : (ls.map sPV)[i]? = some (sPV y) := by rw [List.getElem?_map, hy]; rfl
   refine q0c (And.intro hxp (And.intro hyp (And.intro @q4c @q17))) ?_
   refine VC.cond (by rfl) (by trivial) (fun hc3 => ?_) (fun hc3 => ?_)
   · have hf : V = false := by
      rw [hV, beq_eq_false_iff_ne]
      exact ne_at hx hy (by simpa using hc3)
     subst hf
     refine q0b ?_
     refine retX Tryz.results50 ?_
     exact .c _
   · have hxy : x = y := by simpa using hc3
     refine q0c (hw) ?_
     refine .next ⟨i + 1, by omega, j6x hx hy ht hxy⟩ ?_ (by simp only []; omega)
     simp only [Weak, eq_self, q0v, q0p, sc_c, q0r, q0s, q0t, q0o, q0q, ScL, q0u, List.forall_mem_map, go_sem, Int.reduceBEq, Int.reduceLE, Int.reduceLT, Int.reduceNeg, Nat.reduceAdd, Nat.reduceEqDiff, Nat.reduceLT, Nat.reduceLeDiff, Nat.reduceMul, Nat.reduceSub, reduceCtorEq, ↓reduceIte]
     try exact cI (by omega)
 · have hie : i = ks.length := by simp at hc2; omega
   have hf : V = true := by
    rw [hV, beq_iff_eq]
    exact j6u ht hie hll
   subst hf
   refine q0b ?_
   refine retX Tryz.results50 ?_
   exact .c _
theorem j6n (l : List (List UInt8)) (hl : l.length ≤ 1000000000) (hs : ∀ x ∈ l, x.length ≤ 1000000000) : Told Tryz.prog 147 [.c (.sl 1 (l.map sPV))] (.c (.v (.bool (allM q11 l)))) := by
 obtain ⟨V, hV⟩ : ∃ V, V = allM q11 l := ⟨_, rfl⟩
 rw [← hV]
 unfold allM at hV
 refine VC.toldP ent_147 Tryz.func147 rfl Tryz.ntmps147 fun hb => ?_
 clear hb
 refine q0b ?_
 refine VC.loop (ι := {i : Nat // i ≤ l.length ∧ ∀ (j : Nat) (x : List UInt8), j < i → l[j]? = some x → q11 x = true}) (fun q => [(0, .c (.sl 1 (l.map sPV))), (3, .c (.v (.int .i64 (q.1 : Int))))]) (fun _ => []) 800 (fun q => l.length - q.1) ⟨0, Nat.zero_le _, fun j x h => by omega⟩ ?_ ?_
 · exact q2z
 rintro ⟨i, hi, ht⟩
 simp only []
 refine q0b ?_
 refine VC.cond (by rfl) (by trivial) (fun hc => ?_) (fun hc => ?_)
 · have hlt : i < l.length := by simp at hc; omega
   obtain ⟨x, hx⟩ : ∃ x, l[i]? = some x := ⟨l[i], List.getElem?_eq_getElem hlt⟩
   have hw : IntKind.i64.wrap ((i : Int) + 1) = (i : Int) + 1 := q0f (by omega) (by omega)
   have hxp : (l.map sPV)[i]? = some (sPV x) := by rw [List.getElem?_map, hx]; rfl
   have hS := j6m x (hs x (List.mem_of_getElem? hx))
   refine q0c (And.intro hxp @q4c) ?_
   refine q0j (hS) ?_
   refine q0b ?_
   refine VC.cond (by rfl) (by trivial) (fun hc2 => ?_) (fun hc2 => ?_)
   · have hf : V = false := by
      have : l.all q11 = false := by
       rw [List.all_eq_false]
       exact ⟨x, List.mem_of_getElem? hx, by simpa using hc2⟩
      rw [hV, this]
      simp
     subst hf
     refine q0b ?_
     refine retX Tryz.results147 ?_
     exact .c _
   · have hsx : q11 x = true := by simpa using hc2
     refine q0c (hw) ?_
     refine .next ⟨i + 1, by omega, ?_⟩ ?_ (by simp only []; omega)
     · intro j y hj hy
       by_cases hji : j < i
       · exact ht j y hji hy
       · obtain rfl : j = i := by omega
         rw [hx] at hy
         obtain rfl := Option.some.inj hy
         exact hsx
     simp only [Weak, eq_self, q0v, q0p, sc_c, q0r, q0s, q0t, q0o, q0q, ScL, q0u, List.forall_mem_map, go_sem, Int.reduceBEq, Int.reduceLE, Int.reduceLT, Int.reduceNeg, Nat.reduceAdd, Nat.reduceEqDiff, Nat.reduceLT, Nat.reduceLeDiff, Nat.reduceMul, Nat.reduceSub, reduceCtorEq, ↓reduceIte]
     try exact cI (by omega)
 · have hie : i = l.length := by simp at hc; omega
   have hf : V = decide ((l.length : Int) ≤ 40) := by
    have : l.all q11 = true := by
     rw [List.all_eq_true]
     intro y hy
     obtain ⟨j, hj⟩ := List.getElem?_of_mem hy
     exact ht j y (by have := (List.getElem?_eq_some_iff.1 hj).1; omega) hj
    rw [hV, this, Bool.and_true]
    exact decide_eq_decide.2 (by omega)
   rw [hf]
   refine q0b ?_
   refine retX Tryz.results147 ?_
   exact .c _
theorem z4g {l : List (List UInt8)} {i : Nat} {x : List UInt8} (hx : l[i]? = some x) (h : (l.take i).Nodup) (hn : ∀ (k : Nat) (y : List UInt8), k < i → l[k]? = some y → y ≠ x) : (l.take (i + 1)).Nodup := by
 rw [List.take_add_one, hx]
 simp only [Option.toList_some]
 rw [List.nodup_append]
 refine ⟨h, by simp, fun a ha b hb => ?_⟩
 obtain rfl := List.mem_singleton.1 hb
 obtain ⟨k, hk⟩ := List.getElem?_of_mem ha
 rw [List.getElem?_take] at hk
 split at hk
 · rename_i hki
   exact hn k a hki hk
 · simp at hk
theorem nodup_ne {l : List (List UInt8)} (h : l.Nodup) {i k : Nat} {x y : List UInt8} (hx : l[i]? = some x) (hy : l[k]? = some y) (hk : k < i) : y ≠ x := by
 obtain ⟨h1, rfl⟩ := List.getElem?_eq_some_iff.1 hx
 obtain ⟨h2, rfl⟩ := List.getElem?_eq_some_iff.1 hy
 intro e
 exact List.pairwise_iff_getElem.1 h k i h2 h1 hk e
theorem j6j (l : List (List UInt8)) (hl : l.length ≤ 1000000000) : Told Tryz.prog 92 [.c (.sl 1 (l.map sPV))] (.c (.v (.bool (decide l.Nodup)))) := by
 obtain ⟨V, hV⟩ : ∃ V, V = decide l.Nodup := ⟨_, rfl⟩
 rw [← hV]
 refine VC.toldP ent_92 Tryz.func92 rfl Tryz.ntmps92 fun hb => ?_
 clear hb
 refine q0b ?_
 refine VC.loop (ι := {i : Nat // i ≤ l.length ∧ (l.take i).Nodup}) (fun q => [(0, .c (.sl 1 (l.map sPV))), (3, .c (.v (.int .i64 (q.1 : Int))))]) (fun _ => []) 800 (fun q => l.length - q.1) ⟨0, Nat.zero_le _, by simp⟩ ?_ ?_
 · exact q2z
 rintro ⟨i, hi, ht⟩
 simp only []
 refine q0b ?_
 refine VC.cond (by rfl) (by trivial) (fun hc => ?_) (fun hc => ?_)
 · have hlt : i < l.length := by simp at hc; omega
   obtain ⟨x, hx⟩ : ∃ x, l[i]? = some x := ⟨l[i], List.getElem?_eq_getElem hlt⟩
   have hw : IntKind.i64.wrap ((i : Int) + 1) = (i : Int) + 1 := q0f (by omega) (by omega)
   have hxp : (l.map sPV)[i]? = some (sPV x) := by rw [List.getElem?_map, hx]; rfl
   refine q0b ?_
   refine VC.loop (ι := {k : Nat // k ≤ i ∧ ∀ (j : Nat) (y : List UInt8), j < k → l[j]? = some y → y ≠ x}) (fun q => [(0, .c (.sl 1 (l.map sPV))), (3, .c (.v (.int .i64 (i : Int)))), (4, .c (.v (.int .i64 (q.1 : Int))))]) (fun _ => []) 800 (fun q => i - q.1) ⟨0, Nat.zero_le _, fun j y h => by omega⟩ ?_ ?_
   · exact q2z
   rintro ⟨k, hk, hn⟩
   simp only []
   refine q0b ?_
   refine VC.cond (by rfl) (by trivial) (fun hc2 => ?_) (fun hc2 => ?_)
   · have hki : k < i := by simp at hc2; omega
     obtain ⟨y, hy⟩ : ∃ y, l[k]? = some y := ⟨l[k]'(by omega), List.getElem?_eq_getElem (by omega)⟩
     have hwk : IntKind.i64.wrap ((k : Int) + 1) = (k : Int) + 1 := q0f (by omega) (by omega)
     have hyp : (l.map sPV)[k]? = some (sPV y) := by rw [List.getElem?_map, hy]; rfl
     refine q0c (And.intro hxp (And.intro hyp (And.intro @q4c @q17))) ?_
     refine VC.cond (by rfl) (by trivial) (fun hc3 => ?_) (fun hc3 => ?_)
     · have hf : V = false := by
        rw [hV, decide_eq_false_iff_not]
        intro hd
        exact nodup_ne hd hx hy hki (by simpa using hc3)
       subst hf
       refine q0b ?_
       refine retX Tryz.results92 ?_
       exact .c _
     · have hyx : y ≠ x := by simpa using hc3
       refine q0c (hwk) ?_
       refine .next ⟨k + 1, by omega, ?_⟩ ?_ (by simp only []; omega)
       · intro j z hj hz
         by_cases hji : j < k
         · exact hn j z hji hz
         · obtain rfl : j = k := by omega
           rw [hy] at hz
           obtain rfl := Option.some.inj hz
           exact hyx
       simp only [Weak, eq_self, q0v, q0p, sc_c, q0r, q0s, q0t, q0o, q0q, ScL, q0u, List.forall_mem_map, go_sem, Int.reduceBEq, Int.reduceLE, Int.reduceLT, Int.reduceNeg, Nat.reduceAdd, Nat.reduceEqDiff, Nat.reduceLT, Nat.reduceLeDiff, Nat.reduceMul, Nat.reduceSub, reduceCtorEq, ↓reduceIte]
       try exact cI (by omega)
   · have hke : k = i := by simp at hc2; omega
     subst hke
     refine q0c (hw) ?_
     refine .next ⟨k + 1, by omega, z4g hx ht hn⟩ ?_ (by simp only []; omega)
     simp only [Weak, eq_self, q0v, q0p, sc_c, q0r, q0s, q0t, q0o, q0q, ScL, q0u, List.forall_mem_map, go_sem, Int.reduceBEq, Int.reduceLE, Int.reduceLT, Int.reduceNeg, Nat.reduceAdd, Nat.reduceEqDiff, Nat.reduceLT, Nat.reduceLeDiff, Nat.reduceMul, Nat.reduceSub, reduceCtorEq, ↓reduceIte]
     try exact cI (by omega)
 · have hie : i = l.length := by simp at hc; omega
   have hf : V = true := by
    rw [hV, decide_eq_true_eq]
    rw [hie, List.take_length] at ht
    exact ht
   subst hf
   refine q0b ?_
   refine retX Tryz.results92 ?_
   exact .c _

theorem rone_told (a b : NT) : Told Tryz.prog 43 [a.av, b.av] (.c (.v (.bool (ceq a b)))) := by
 obtain ⟨V, hV⟩ : ∃ V, V = ceq a b := ⟨_, rfl⟩
 rw [← hV]
 have hT1 := j6o a.aliases b.aliases
 have hT2 := j6o a.symbols b.symbols
 obtain ⟨t1, ht1⟩ : ∃ t, t = (a.aliases == b.aliases) := ⟨_, rfl⟩
 obtain ⟨t2, ht2⟩ : ∃ t, t = (a.symbols == b.symbols) := ⟨_, rfl⟩
 rw [← ht1] at hT1
 rw [← ht2] at hT2
 rw [NT.av_eq, NT.av_eq, q0d, q0d]
 refine VC.toldP ent_43 Tryz.func43 rfl Tryz.ntmps43 fun hb => ?_
 simp only [List.map_cons, List.map_nil, j2t, q5n, pbd_v, q5x, List.mem_cons, List.not_mem_nil, or_false, forall_eq_or_imp, forall_eq, true_and, List.length_map] at hb
 have hfl : a.fields.length ≤ 9223372036854775807 := hb.1.2.1.1
 have hbl : a.branches.length ≤ 9223372036854775807 := hb.1.2.2.2.1
 clear hb
 refine q0c (@q17) ?_
 refine q2m (hT1) ?_
 refine q0c (@q17) ?_
 refine q2m (hT2) ?_
 refine q0c (@q17) ?_
 refine VC.cond (by rfl) (by trivial) (fun hc => ?_) (fun hc => ?_)
 · have hf : V = false := by
    cases h : V with
    | false => rfl
    | true =>
      rw [hV, q65] at h
      subst h
      simp [ht1, ht2] at hc
   subst hf
   refine q0b ?_
   refine retX Tryz.results43 ?_
   exact .c _
 simp only [Bool.or_eq_false_iff, bne_eq_false_iff_eq, Bool.not_eq_false', beq_iff_eq] at hc
 obtain ⟨⟨⟨⟨⟨⟨⟨⟨⟨h1, h2⟩, h3⟩, h4⟩, h5⟩, h6⟩, h7⟩, h8⟩, h9⟩, h10⟩ := hc
 have hbb : a.branches.length = b.branches.length := by omega
 have hff : a.fields.length = b.fields.length := by omega
 have e3 : a.aliases = b.aliases := by simpa [ht1] using h3
 have e4 : a.symbols = b.symbols := by simpa [ht2] using h4
 have hv : V = (ceq a.fields b.fields && (a.branches == b.branches)) := by
  rw [hV, ceq_node, h1, h2, e3, e4, h5, h6, h7, h8]
  simp
 clear hV hT1 hT2 ht1 ht2
 refine q0b ?_
 refine VC.loop (ι := {i : Nat // i ≤ a.branches.length ∧ a.branches.take i = b.branches.take i}) (fun q => [(2, .ref 0 1 0 0), (3, .ref 8 1 0 0), (5, .c (.v (.int .i64 (q.1 : Int))))])
  (fun _ => [(0, ⟨false, 33, 10, [a.cells.map .c]⟩), (8, ⟨false, 33, 10, [b.cells.map .c]⟩)]) 800 (fun q => a.branches.length - q.1) ⟨0, Nat.zero_le _, rfl⟩ ?_ ?_
 · simp only [q0d, Weak, eq_self, q0v, q0p, sc_c, q0r, q0s, q0t, q0o, q0q, ScL, q0u, List.forall_mem_map, go_sem, Int.reduceBEq, Int.reduceLE, Int.reduceLT, Int.reduceNeg, Nat.reduceAdd, Nat.reduceEqDiff, Nat.reduceLT, Nat.reduceLeDiff, Nat.reduceMul, Nat.reduceSub, reduceCtorEq, ↓reduceIte]
   try simp
 rintro ⟨i, hi, ht⟩
 simp only []
 refine q0c (@q0d) ?_
 refine VC.cond (by rfl) (by trivial) (fun hc => ?_) (fun hc => ?_)
 · have hlt : i < a.branches.length := by simp at hc; omega
   obtain ⟨x, hx⟩ : ∃ x, a.branches[i]? = some x := ⟨a.branches[i], List.getElem?_eq_getElem hlt⟩
   obtain ⟨y, hy⟩ : ∃ y, b.branches[i]? = some y := ⟨b.branches[i]'(by omega), List.getElem?_eq_getElem (by omega)⟩
   have hw : IntKind.i64.wrap ((i : Int) + 1) = (i : Int) + 1 := q0f (by omega) (by omega)
   have hxp : (a.branches.map iPV)[i]? = some (iPV x) := by rw [List.getElem?_map, hx]; rfl
   have hyp : (b.branches.map iPV)[i]? = some (iPV y) := by rw [List.getElem?_map, hy]; rfl
   refine q0c (And.intro @q0d (And.intro hxp (And.intro hyp @q3b))) ?_
   refine VC.cond (by rfl) (by trivial) (fun hc2 => ?_) (fun hc2 => ?_)
   · have hf : V = false := by
      have : (a.branches == b.branches) = false := by
       rw [beq_eq_false_iff_ne]
       exact ne_at hx hy (by simpa using hc2)
      rw [hv, this]
      simp
     subst hf
     refine q0b ?_
     refine retX Tryz.results43 ?_
     exact .c _
   · have hxy : x = y := by simpa using hc2
     refine q0c (hw) ?_
     refine .next ⟨i + 1, by omega, j6x hx hy ht hxy⟩ ?_ (by simp only []; omega)
     simp only [q0d, Weak, eq_self, q0v, q0p, sc_c, q0r, q0s, q0t, q0o, q0q, ScL, q0u, List.forall_mem_map, go_sem, Int.reduceBEq, Int.reduceLE, Int.reduceLT, Int.reduceNeg, Nat.reduceAdd, Nat.reduceEqDiff, Nat.reduceLT, Nat.reduceLeDiff, Nat.reduceMul, Nat.reduceSub, reduceCtorEq, ↓reduceIte]
     try exact cI (by omega)
 have hie : i = a.branches.length := by simp at hc; omega
 have hbe : a.branches = b.branches := j6u ht hie hbb
 have hv2 : V = ceq a.fields b.fields := by rw [hv, hbe]; simp
 clear hv hc
 refine q0b ?_
 refine VC.loop (ι := {i : Nat // i ≤ a.fields.length ∧ a.fields.take i = b.fields.take i}) (fun q => [(2, .ref 0 1 0 0), (3, .ref 8 1 0 0), (6, .c (.v (.int .i64 (q.1 : Int))))])
  (fun _ => [(0, ⟨false, 33, 10, [a.cells.map .c]⟩), (8, ⟨false, 33, 10, [b.cells.map .c]⟩)]) 1600 (fun q => a.fields.length - q.1) ⟨0, Nat.zero_le _, rfl⟩ ?_ ?_
 · simp only [q0d, Weak, eq_self, q0v, q0p, sc_c, q0r, q0s, q0t, q0o, q0q, ScL, q0u, List.forall_mem_map, go_sem, Int.reduceBEq, Int.reduceLE, Int.reduceLT, Int.reduceNeg, Nat.reduceAdd, Nat.reduceEqDiff, Nat.reduceLT, Nat.reduceLeDiff, Nat.reduceMul, Nat.reduceSub, reduceCtorEq, ↓reduceIte]
   try simp
 clear hie ht hi i
 rintro ⟨i, hi, ht⟩
 simp only []
 refine q0c (@q0d) ?_
 refine VC.cond (by rfl) (by trivial) (fun hc => ?_) (fun hc => ?_)
 · have hlt : i < a.fields.length := by simp at hc; omega
   obtain ⟨x, hx⟩ : ∃ x, a.fields[i]? = some x := ⟨a.fields[i], List.getElem?_eq_getElem hlt⟩
   obtain ⟨y, hy⟩ : ∃ y, b.fields[i]? = some y := ⟨b.fields[i]'(by omega), List.getElem?_eq_getElem (by omega)⟩
   have hw : IntKind.i64.wrap ((i : Int) + 1) = (i : Int) + 1 := q0f (by omega) (by omega)
   have hxp : (a.fields.map FT.cells)[i]? = some x.cells := by rw [List.getElem?_map, hx]; rfl
   have hyp : (b.fields.map FT.cells)[i]? = some y.cells := by rw [List.getElem?_map, hy]; rfl
   have hT := j6o x.aliases y.aliases
   have hS := z0i _ x.dflt y.dflt (Nat.le_refl _)
   simp only [JT.av] at hS
   obtain ⟨u1, hu1⟩ : ∃ t, t = (x.aliases == y.aliases) := ⟨_, rfl⟩
   obtain ⟨u2, hu2⟩ : ∃ t, t = jeq x.dflt y.dflt := ⟨_, rfl⟩
   rw [← hu1] at hT
   rw [← hu2] at hS
   refine q0c (And.intro @q0d (And.intro hxp (And.intro hyp (And.intro @q3h (And.intro @q1z (And.intro @q18 (And.intro @q19 @q17))))))) ?_
   refine q2m (hT) ?_
   refine q0c (And.intro @q0d (And.intro hxp (And.intro hyp (And.intro @q3h (And.intro @q1z (And.intro @q18 (And.intro @q19 @q17))))))) ?_
   refine q7o (@q02) (hS) ?_
   refine q0b ?_
   refine VC.cond (by rfl) (by trivial) (fun hc2 => ?_) (fun hc2 => ?_)
   · have hne : x ≠ y := by
      rintro rfl
      simp [hu1, hu2, j3s] at hc2
     have hf : V = false := by
      rw [hv2, j43]
      exact ne_at hx hy hne
     subst hf
     refine q0b ?_
     refine retX Tryz.results43 ?_
     exact .c _
   · have hxy : x = y := by
      have e := ceq_field x y
      simp only [Bool.or_eq_false_iff, bne_eq_false_iff_eq, Bool.not_eq_false', beq_iff_eq] at hc2
      obtain ⟨⟨⟨⟨g1, g2⟩, g3⟩, g4⟩, g5⟩ := hc2
      have g2 : x.aliases = y.aliases := by simpa [hu1] using g2
      rw [← q65, e, g1, g2, g3, g4, ← hu2, g5]
      simp
     refine q0c (hw) ?_
     refine .next ⟨i + 1, by omega, j6x hx hy ht hxy⟩ ?_ (by simp only []; omega)
     simp only [q0d, Weak, eq_self, q0v, q0p, sc_c, q0r, q0s, q0t, q0o, q0q, ScL, q0u, List.forall_mem_map, go_sem, Int.reduceBEq, Int.reduceLE, Int.reduceLT, Int.reduceNeg, Nat.reduceAdd, Nat.reduceEqDiff, Nat.reduceLT, Nat.reduceLeDiff, Nat.reduceMul, Nat.reduceSub, reduceCtorEq, ↓reduceIte]
     try exact cI (by omega)
 · have hie : i = a.fields.length := by simp at hc; omega
   have hfe : a.fields = b.fields := j6u ht hie hff
   have hf : V = true := by
    rw [hv2, hfe, j14]
   subst hf
   refine q0b ?_
   refine retX Tryz.results43 ?_
   exact .c _

theorem j36 (k : Int) : Told Tryz.prog 91 [.c (.v (.int .i64 k))] (.c (.v (.bool (q1h k)))) := by
 obtain ⟨V, hV⟩ : ∃ V, V = q1h k := ⟨_, rfl⟩
 rw [← hV]
 unfold q1h at hV
 replace hV := Lib.hid hV
 refine VC.toldP ent_91 Tryz.func91 rfl Tryz.ntmps91 fun hb => ?_
 clear hb
 refine q0b ?_
 refine retX Tryz.results91 ?_
 rw [hV.out]
 exact .c _
theorem z4w (n : NT) (hn : n.sm 1000000) : Told Tryz.prog 96 [n.av] (.c (.sl 1 ((q1e n).map iPV))) := by
 obtain ⟨L, hL⟩ : ∃ L, L = q1e n := ⟨_, rfl⟩
 rw [← hL]
 unfold q1e at hL
 have hfl := hn.2.2.2.2.2.1
 have hbl := hn.2.2.2.2.1
 rw [NT.av_eq, q0d]
 refine VC.toldP ent_96 Tryz.func96 rfl Tryz.ntmps96 fun hb => ?_
 clear hb
 by_cases h9 : n.kind = 9
 · rw [if_pos h9] at hL
   subst hL
   rw [h9]
   refine q0m ?_
   refine VC.nil 3 3 1 (by rfl) (by trivial) (by rfl) ?_
   refine VC.loop (ι := {i : Nat // i ≤ n.fields.length}) (fun q => [(1, .ref 0 1 0 0), (3, .row 56 q.1), (4, .c (.v (.int .i64 (q.1 : Int))))])
    (fun q => [(0, ⟨false, 33, 10, [({n with kind := 9} : NT).cells.map .c]⟩), (56, ⟨true, 3, 1, rA iPV ((n.fields.map (·.type)).take q.1)⟩)]) 800 (fun q => n.fields.length - q.1) ⟨0, Nat.zero_le _⟩ ?_ ?_
   · simp only [q0x, q1l, q7a, q0d, Weak, eq_self, q0v, q0p, sc_c, q0r, q0s, q0t, q0o, q0q, ScL, q0u, List.forall_mem_map, go_sem, Int.reduceBEq, Int.reduceLE, Int.reduceLT, Int.reduceNeg, Nat.reduceAdd, Nat.reduceEqDiff, Nat.reduceLT, Nat.reduceLeDiff, Nat.reduceMul, Nat.reduceSub, reduceCtorEq, ↓reduceIte]
     try simp
   rintro ⟨i, hi⟩
   simp only []
   refine q0c (@q0d) ?_
   refine VC.cond (by rfl) (by trivial) (fun hc => ?_) (fun hc => ?_)
   · have hlt : i < n.fields.length := by simp at hc; omega
     obtain ⟨f, hx⟩ : ∃ f, n.fields[i]? = some f := ⟨n.fields[i], List.getElem?_eq_getElem hlt⟩
     have hw : IntKind.i64.wrap ((i : Int) + 1) = (i : Int) + 1 := q0f (by omega) (by omega)
     have hxp : (n.fields.map FT.cells)[i]? = some f.cells := by rw [List.getElem?_map, hx]; rfl
     have hl : (rA iPV ((n.fields.map (·.type)).take i)).length = i := by rw [q0x]; simp; omega
     have hr : rA iPV ((n.fields.map (·.type)).take i) ++ [[.c (.v (.int .i64 f.type))]] = rA iPV ((n.fields.map (·.type)).take (i + 1)) := by
      rw [List.take_add_one, List.getElem?_map, hx]
      exact q7b iPV _ f.type
     have hl2 : (rA iPV ((n.fields.map (·.type)).take (i + 1))).length = i + 1 := by rw [q0x]; simp; omega
     refine q0c (And.intro @q0d (And.intro hxp (And.intro @q3h (And.intro @q1z (And.intro @q18 (And.intro @q19 (And.intro hl (And.intro hr hw)))))))) ?_
     refine .next ⟨i + 1, by omega⟩ ?_ (by simp only []; omega)
     refine q1j (And.intro hl2 (And.intro @q1l @q0d)) ?_
     exact ⟨cI (by omega), Nat.le_refl _⟩
   · have hie : i = n.fields.length := by simp at hc; omega
     have htk : (n.fields.map (·.type)).take i = n.fields.map (·.type) := List.take_of_length_le (by simp; omega)
     rw [htk]
     refine q0a (And.intro hie @q0d) ?_
     refine retX Tryz.results96 ?_
     apply q37 (f := iPV) (l := n.fields.map (·.type)) (T := 3)
     · rfl
     · simp [hie]
     · rfl
     · simp [iPV]
 by_cases h11 : n.kind = 11
 · rw [if_neg h9, if_pos (.inl h11)] at hL
   subst hL
   rw [h11]
   refine q0m ?_
   refine retX Tryz.results96 ?_
   exact q37 (f := iPV) (l := [n.items]) rfl rfl rfl (by simp [iPV])
 by_cases h12 : n.kind = 12
 · rw [if_neg h9, if_pos (.inr h12)] at hL
   subst hL
   rw [h12]
   refine q0m ?_
   refine retX Tryz.results96 ?_
   exact q37 (f := iPV) (l := [n.items]) rfl rfl rfl (by simp [iPV])
 by_cases h13 : n.kind = 13
 · rw [if_neg h9, if_neg (by simp [h11, h12]), if_pos h13] at hL
   subst hL
   rw [h13]
   refine q0m ?_
   refine retX Tryz.results96 ?_
   refine q37 (f := iPV) (l := n.branches) (T := 3) ?_ ?_ rfl (by simp [iPV])
   · simp [q6y, q5j]
   · simp
 · rw [if_neg h9, if_neg (by simp [h11, h12]), if_neg h13] at hL
   subst hL
   have e9 : (n.kind == 9) = false := by simpa using h9
   have e11 : (n.kind == 11) = false := by simpa using h11
   have e12 : (n.kind == 12) = false := by simpa using h12
   have e13 : (n.kind == 13) = false := by simpa using h13
   refine q0a (And.intro e9 (And.intro e11 (And.intro e12 e13))) ?_
   refine retX Tryz.results96 ?_
   exact .nil _
theorem met_told (s : ST) (hl : s.nodes.length ≤ 1000000) (hs : ∀ n ∈ s.nodes, n.sm 1000000) : ∀ (d : Nat) (z : Int), z = 33 - (d : Int) → d ≤ 33 → ∀ p : Nat, p ≤ s.nodes.length →
  Told Tryz.prog 144 [s.av, .c (.v (.int .i64 (p : Int))), .c (.v (.int .i64 z))] (.c (.v (.int .i64 (metM s.nodes d p)))) := by
 intro d
 induction d with
 | zero =>
   intro z hz hd p hp
   have hz2 : decide (z > 32) = true := by simp; omega
   have hm : metM s.nodes 0 p = -1 := by simp [metM, q2n]
   rw [hm, ST.av_eq, q0i]
   refine VC.toldP j5j Tryz.func144 rfl Tryz.ntmps144 fun hb => ?_
   clear hb
   refine q0c (hz2) ?_
   refine VC.cond (by rfl) (by trivial) (fun hc => ?_) (fun hc => ?_)
   · refine q0b ?_
     refine retX Tryz.results144 ?_
     exact .c _
   · exact absurd hc (by simp)
 | succ d ih =>
   intro z hz hd p hp
   have hz2 : decide (z > 32) = false := by simp; omega
   have hwz : IntKind.i64.wrap (z + 1) = z + 1 := q0f (by omega) (by omega)
   have hI := ih (z + 1) (by omega) (by omega)
   clear ih
   obtain ⟨V, hV⟩ : ∃ V, V = metM s.nodes (d + 1) p := ⟨_, rfl⟩
   rw [← hV]
   unfold metM at hV
   obtain ⟨R, hR⟩ : ∃ R, R = q2n s.nodes (d + 1) p := ⟨_, rfl⟩
   rw [← hR] at hV
   rw [q2n] at hR
   have hle := j4u s.nodes d
   rw [ST.av_eq, q0i]
   simp only [ST.av_eq, q0i, List.map_cons, List.map_nil] at hI
   by_cases hlt : p < s.nodes.length
   · obtain ⟨n, hn⟩ : ∃ n, s.nodes[p]? = some n := ⟨s.nodes[p], List.getElem?_eq_getElem hlt⟩
     have hnp : (s.nodes.map NT.cells)[p]? = some n.cells := by rw [List.getElem?_map, hn]; rfl
     have hge : decide ((p : Int) ≥ (s.nodes.length : Int)) = false := by simp; omega
     have hwp : IntKind.i64.wrap ((p : Int) + 1) = ((p + 1 : Nat) : Int) := by rw [q0f (by omega) (by omega)]; rfl
     have hns := hs n (List.mem_of_getElem? hn)
     have hKi := z4w n hns
     have hkl := j9f hns
     rw [hn] at hR
     simp only [] at hR
     obtain ⟨ks, hks⟩ : ∃ ks, ks = q1e n := ⟨_, rfl⟩
     rw [← hks] at hKi hR hkl
     simp only [NT.av_eq] at hKi
     clear hks
     refine VC.toldP j5j Tryz.func144 rfl Tryz.ntmps144 fun hb => ?_
     clear hb
     refine q0c (And.intro hge hz2) ?_
     refine VC.cond (by rfl) (by trivial) (fun hc => ?_) (fun hc => ?_)
     · exact absurd hc (by simp)
     refine q0c (And.intro hwp (And.intro hnp (And.intro @q1m (And.intro @j6v @j6w)))) ?_
     refine q06 (@q02) (hKi) ?_
     refine q0b ?_
     clear hKi
     refine VC.loop (ι := {x : Nat × Nat // x.1 ≤ ks.length ∧ x.2 ≤ s.nodes.length ∧ q40 s.nodes (q2n s.nodes d) (ks.drop x.1) x.2 = R})
      (fun q => [(2, .c (.v (.int .i64 z))), (3, .ref 0 1 0 0), (7, .c (.v (.int .i64 (q.1.2 : Int)))), (8, .c (.sl 1 (ks.map iPV))), (9, .c (.v (.int .i64 (q.1.1 : Int))))])
      (fun q => [(0, ⟨false, 24, 2, [[.c (.sl 10 (s.nodes.map NT.cells)), .c (.v (.int .i64 s.root))]]⟩)]) 800 (fun q => ks.length - q.1.1) ⟨(0, p + 1), Nat.zero_le _, hlt, by rw [List.drop_zero]; exact hR.symm⟩ ?_ ?_
     · simp only [Weak, eq_self, q0v, q0p, sc_c, q0r, q0s, q0t, q0o, q0q, ScL, q0u, List.forall_mem_map, go_sem, Int.reduceBEq, Int.reduceLE, Int.reduceLT, Int.reduceNeg, Nat.reduceAdd, Nat.reduceEqDiff, Nat.reduceLT, Nat.reduceLeDiff, Nat.reduceMul, Nat.reduceSub, reduceCtorEq, ↓reduceIte]
       try simp
     clear hR
     rintro ⟨⟨i, q⟩, hi, hq, hR⟩
     simp only [] at hi hq hR ⊢
     refine q0b ?_
     refine VC.cond (by rfl) (by trivial) (fun hc2 => ?_) (fun hc2 => ?_)
     · have hil : i < ks.length := by simp at hc2; omega
       obtain ⟨x, hx⟩ : ∃ x, ks[i]? = some x := ⟨ks[i], List.getElem?_eq_getElem hil⟩
       have hxp : (ks.map iPV)[i]? = some (iPV x) := by rw [List.getElem?_map, hx]; rfl
       have hw : IntKind.i64.wrap ((i : Int) + 1) = (i : Int) + 1 := q0f (by omega) (by omega)
       rw [j5b hx, q40] at hR
       by_cases hx0 : x < 0
       · have hf : R = (false, q) := by
          rw [if_neg (by omega), if_pos (.inl hx0)] at hR
          exact hR.symm
         subst hf
         obtain rfl : V = -1 := hV
         have e0 : decide (x < 0) = true := by simpa using hx0
         refine q0a (And.intro hxp (And.intro @q3b e0)) ?_
         refine retX Tryz.results144 ?_
         exact .c _
       have e0 : decide (x < 0) = false := by simpa using hx0
       by_cases hxq : x > (q : Int)
       · have hf : R = (false, q) := by
          rw [if_neg (by omega), if_pos (.inr (.inl hxq))] at hR
          exact hR.symm
         subst hf
         obtain rfl : V = -1 := hV
         have e1 : decide (x > (q : Int)) = true := by simpa using hxq
         refine q0a (And.intro hxp (And.intro @q3b (And.intro e0 e1))) ?_
         refine retX Tryz.results144 ?_
         exact .c _
       have e1 : decide (x > (q : Int)) = false := by simpa using hxq
       by_cases hk : x = (q : Int)
       · rw [if_pos hk] at hR
         subst hk
         have e2 : decide ((q : Int) < (q : Int)) = false := by simp
         have hkq : ((q : Int) == (q : Int)) = true := by simp
         have hIq := hI q hq
         have hqb := (hle q hq).2
         obtain ⟨D, hD⟩ : ∃ D, D = metM s.nodes d q := ⟨_, rfl⟩
         rw [← hD] at hIq
         unfold metM at hD
         obtain ⟨M, hM⟩ : ∃ M, M = q2n s.nodes d q := ⟨_, rfl⟩
         rw [← hM] at hD hR hqb
         clear hI hM
         refine q0a (And.intro hxp (And.intro @q3b (And.intro hkq (And.intro hwz (And.intro e0 (And.intro e1 e2)))))) ?_
         refine q0j (hIq) ?_
         cases hm1 : M.1 with
         | false =>
           rw [hm1, if_neg (by simp)] at hD hR
           subst hR
           obtain rfl : V = -1 := hV
           subst hD
           refine q0m ?_
           refine retX Tryz.results144 ?_
           exact .c _
         | true =>
           rw [hm1, if_pos rfl] at hD hR
           subst hD
           have e3 : decide (((M.2 : Nat) : Int) < 0) = false := by simp
           refine q0a (And.intro e3 hw) ?_
           refine .next ⟨(i + 1, M.2), by simp only []; omega, hqb, hR⟩ ?_ (by simp only []; omega)
           simp only [Weak, eq_self, q0v, q0p, sc_c, q0r, q0s, q0t, q0o, q0q, ScL, q0u, List.forall_mem_map, go_sem, Int.reduceBEq, Int.reduceLE, Int.reduceLT, Int.reduceNeg, Nat.reduceAdd, Nat.reduceEqDiff, Nat.reduceLT, Nat.reduceLeDiff, Nat.reduceMul, Nat.reduceSub, reduceCtorEq, ↓reduceIte]
           try exact cI (by omega)
       · rw [if_neg hk] at hR
         have e2 : decide (x < (q : Int)) = true := by simp; omega
         have hkq : (x == (q : Int)) = false := by simpa using hk
         obtain ⟨j, rfl⟩ : ∃ j : Nat, x = (j : Int) := ⟨x.toNat, by omega⟩
         have hj : j < s.nodes.length := by omega
         obtain ⟨m, hm⟩ : ∃ m, s.nodes[j]? = some m := ⟨s.nodes[j], List.getElem?_eq_getElem hj⟩
         have hmp : (s.nodes.map NT.cells)[j]? = some m.cells := by rw [List.getElem?_map, hm]; rfl
         have hka : q3c s.nodes ((j : Int)).toNat = m.kind := by rw [Int.toNat_natCast, q3c, hm]
         rw [hka] at hR
         have hN := j36 m.kind
         refine q0a (And.intro hxp (And.intro @q3b (And.intro hkq (And.intro e0 (And.intro e1 (And.intro e2 (And.intro hmp @q0d))))))) ?_
         refine q0j (hN) ?_
         refine q0c (hkq) ?_
         refine VC.cond (by rfl) (by trivial) (fun hc3 => ?_) (fun hc3 => ?_)
         · have hf : R = (false, q) := by
            rw [if_pos (.inr (.inr (by simpa using hc3)))] at hR
            exact hR.symm
           subst hf
           obtain rfl : V = -1 := hV
           refine q0b ?_
           refine retX Tryz.results144 ?_
           exact .c _
         · have hnn : q1h m.kind = true := by simpa using hc3
           have hno : ¬ ((j : Int) < 0 ∨ (j : Int) > (q : Int) ∨ q1h m.kind = false) := by
            rintro (h | h | h)
            · exact hx0 h
            · exact hxq h
            · rw [hnn] at h
              exact absurd h (by simp)
           rw [if_neg hno] at hR
           refine q0a (And.intro hw hkq) ?_
           refine .next ⟨(i + 1, q), by simp only []; omega, hq, hR⟩ ?_ (by simp only []; omega)
           simp only [Weak, eq_self, q0v, q0p, sc_c, q0r, q0s, q0t, q0o, q0q, ScL, q0u, List.forall_mem_map, go_sem, Int.reduceBEq, Int.reduceLE, Int.reduceLT, Int.reduceNeg, Nat.reduceAdd, Nat.reduceEqDiff, Nat.reduceLT, Nat.reduceLeDiff, Nat.reduceMul, Nat.reduceSub, reduceCtorEq, ↓reduceIte]
           try exact cI (by omega)
     · have hie : i = ks.length := by simp at hc2; omega
       have hf : R = (true, q) := by
        rw [hie, List.drop_length, q40] at hR
        exact hR.symm
       subst hf
       obtain rfl : V = (q : Int) := hV
       refine q0b ?_
       refine retX Tryz.results144 ?_
       exact .c _
   · have hR : R = (false, p) := by
      rw [hR, List.getElem?_eq_none (by omega)]
     subst hR
     obtain rfl : V = -1 := hV
     have hge : decide ((p : Int) ≥ (s.nodes.length : Int)) = true := by simp; omega
     refine VC.toldP j5j Tryz.func144 rfl Tryz.ntmps144 fun hb => ?_
     clear hb
     refine q0c (hge) ?_
     refine VC.cond (by rfl) (by trivial) (fun hc => ?_) (fun hc => ?_)
     · refine q0b ?_
       refine retX Tryz.results144 ?_
       exact .c _
     · exact absurd hc (by simp)
theorem z5g (s : ST) (hl : s.nodes.length ≤ 1000000) (hs : ∀ n ∈ s.nodes, n.sm 1000000) : Told Tryz.prog 88 [s.av] (.c (.v (.bool (q38 s)))) := by
 have hW := met_told s hl hs 33 0 (by omega) (by omega) 0 (Nat.zero_le _)
 obtain ⟨D, hD⟩ : ∃ D, D = metM s.nodes 33 0 := ⟨_, rfl⟩
 rw [← hD] at hW
 unfold metM at hD
 have hle := j4u s.nodes 33 0 (Nat.zero_le _)
 have hv : q38 s = (decide ((s.nodes.length : Int) ≥ 1) && decide ((s.nodes.length : Int) ≤ 200) && (s.root == 0) && (D == (s.nodes.length : Int))) := by
  have e1 : decide ((s.nodes.length : Int) ≥ 1) = decide (0 < s.nodes.length) := by simp; omega
  have e2 : decide ((s.nodes.length : Int) ≤ 200) = decide (s.nodes.length ≤ 200) := by simp; omega
  have e3 : (s.root == 0) = decide (s.root = 0) := by by_cases h : s.root = 0 <;> simp [h]
  have e4 : (D == (s.nodes.length : Int)) = ((q2n s.nodes 33 0).1 && decide ((q2n s.nodes 33 0).2 = s.nodes.length)) := by
   rw [hD]
   cases h1 : (q2n s.nodes 33 0).1 with
   | false =>
     simp
   | true =>
     by_cases h : (q2n s.nodes 33 0).2 = s.nodes.length
     · simp [h]
     · have : ¬ (((q2n s.nodes 33 0).2 : Int) = (s.nodes.length : Int)) := by omega
       simp [h, this]
  rw [q38, e1, e2, e3, e4]
  simp only [Bool.and_assoc]
 obtain ⟨V, hV⟩ : ∃ V, V = q38 s := ⟨_, rfl⟩
 rw [← hV] at hv ⊢
 clear hV hD hle
 replace hv := Lib.hid hv
 simp only [ST.av_eq, q0i, List.map_cons, List.map_nil] at hW
 rw [ST.av_eq, q0i]
 rw [show ((0 : Nat) : Int) = 0 from rfl] at hW
 refine VC.toldP ent_88 Tryz.func88 rfl Tryz.ntmps88 fun hb => ?_
 clear hb
 refine q0b ?_
 refine q2m (hW) ?_
 refine q0b ?_
 refine retX Tryz.results88 ?_
 rw [hv.out]
 exact .c _

theorem z0j (s : List UInt8) (hs : s.length ≤ 1000000) : Told Tryz.prog 197 [.c (.v (.string (str s)))] (.c (.v (.bool (q2p s)))) := by
 obtain ⟨Z, hC, hd⟩ := j93 s hs
 have hsz : (str s).size = s.length := q2a s
 have hdl : (str s).data.toList = s := by simp [str]
 refine VC.toldP ent_197 Tryz.func197 rfl Tryz.ntmps197 fun hb => ?_
 clear hb
 refine q0c (And.intro hsz hdl) ?_
 refine q06 (And.intro hsz hdl) (hC) ?_
 refine q0c (hd) ?_
 refine retX Tryz.results197 ?_
 exact .c _

theorem takeN {α : Type} {l : List α} {i : Nat} {x : α} (h : l[i]? = some x) : l.take (i + 1) = l.take i ++ [x] := by
 rw [List.take_add_one, h]
 rfl
theorem j6l : ∀ xs : List JT, q6r xs = xs.all q5z
 | [] => by rw [q6r]; rfl
 | x :: xs => by rw [q6r, j6l xs]; rfl
theorem z5l : ∀ (m : Nat) (t : JT), SizeOf.sizeOf t ≤ m → t.sm 1000000 → Told Tryz.prog 157 [t.av] (.c (.v (.bool (q5z t)))) := by
 intro m
 induction m with
 | zero =>
   intro t ht
   cases t
   simp at ht
 | succ m ih =>
 intro t ht hsm
 cases t with
 | mk k n s ks xs =>
 have hx : ∀ x ∈ xs, Told Tryz.prog 157 [x.av] (.c (.v (.bool (q5z x)))) := fun x hxm => ih x (by have := List.sizeOf_lt_of_mem hxm; simp at ht; omega) (j6s hsm.2.2.2.2 x hxm)
 obtain ⟨hsl, hkl, hks, hxl, _⟩ := hsm
 clear ih ht
 obtain ⟨V, hV⟩ : ∃ V, V = q5z (.mk k n s ks xs) := ⟨_, rfl⟩
 rw [← hV]
 rw [q5z] at hV
 have hT := z0j s hsl
 simp only [JT.av]
 refine VC.told ent_157 Tryz.func157 rfl Tryz.ntmps157 (by simp) (by simp [AV.pureB, AV.pureL, q0n]) (by simp [AV.pureB, AV.pureL]) fun hb => ?_
 clear hb
 (iterate 18 (first | refine pass ?_ | refine VC.region (by rfl) (by rfl) ?_ | (refine AO.step fun K hK => ?_; simp only [q0n, List.length_map, go_sem, Int.reduceBEq, Int.reduceLE, Int.reduceLT, Int.reduceNeg, Nat.reduceAdd, Nat.reduceEqDiff, Nat.reduceLT, Nat.reduceLeDiff, Nat.reduceMul, Nat.reduceSub, reduceCtorEq, ↓reduceIte]; (first | refine q4q ?_ | refine q1k ?_ | skip); (first | refine hK _ _ _ ?_ | refine ⟨by first | omega | exact ⟨_, rfl, rfl⟩ | exact fun _ => ⟨_, rfl, rfl⟩ | (intro h; simp only [q0n, List.length_map, h, true_and]; omega) | (clear hK; intro h; simp_all <;> omega), hK _ _ _ ?_⟩); clear hK K) | refine VC.draw mixP (by rfl) (by rfl) ?_ | refine ⟨q4v (by kernel_rfl), ?_⟩ | refine BQ.other (by decide) ?_ | refine VC.seq ?_ | refine AO.nil ?_ | refine VC.block ?_))
 obtain ⟨b1, hb1⟩ : ∃ b : Bool, b = (decide (k < 1) || decide (k > 6)) := ⟨_, rfl⟩
 rw [← hb1]; replace hb1 := Lib.hid hb1
 (iterate 15 (first | refine pass ?_ | refine VC.region (by rfl) (by rfl) ?_ | (refine AO.step fun K hK => ?_; simp only [q0n, List.length_map, go_sem, Int.reduceBEq, Int.reduceLE, Int.reduceLT, Int.reduceNeg, Nat.reduceAdd, Nat.reduceEqDiff, Nat.reduceLT, Nat.reduceLeDiff, Nat.reduceMul, Nat.reduceSub, reduceCtorEq, ↓reduceIte]; (first | refine q4q ?_ | refine q1k ?_ | skip); (first | refine hK _ _ _ ?_ | refine ⟨by first | omega | exact ⟨_, rfl, rfl⟩ | exact fun _ => ⟨_, rfl, rfl⟩ | (intro h; simp only [q0n, List.length_map, h, true_and]; omega) | (clear hK; intro h; simp_all <;> omega), hK _ _ _ ?_⟩); clear hK K) | refine VC.draw mixP (by rfl) (by rfl) ?_ | refine ⟨q4v (by kernel_rfl), ?_⟩ | refine BQ.other (by decide) ?_ | refine VC.seq ?_ | refine AO.nil ?_ | refine VC.block ?_))
 obtain ⟨b2, hb2⟩ : ∃ b : Bool, b = (b1 || k != 2 && k != 3 && n != 0) := ⟨_, rfl⟩
 rw [← hb2]; replace hb2 := Lib.hid hb2
 (iterate 15 (first | refine pass ?_ | refine VC.region (by rfl) (by rfl) ?_ | (refine AO.step fun K hK => ?_; simp only [q0n, List.length_map, go_sem, Int.reduceBEq, Int.reduceLE, Int.reduceLT, Int.reduceNeg, Nat.reduceAdd, Nat.reduceEqDiff, Nat.reduceLT, Nat.reduceLeDiff, Nat.reduceMul, Nat.reduceSub, reduceCtorEq, ↓reduceIte]; (first | refine q4q ?_ | refine q1k ?_ | skip); (first | refine hK _ _ _ ?_ | refine ⟨by first | omega | exact ⟨_, rfl, rfl⟩ | exact fun _ => ⟨_, rfl, rfl⟩ | (intro h; simp only [q0n, List.length_map, h, true_and]; omega) | (clear hK; intro h; simp_all <;> omega), hK _ _ _ ?_⟩); clear hK K) | refine VC.draw mixP (by rfl) (by rfl) ?_ | refine ⟨q4v (by kernel_rfl), ?_⟩ | refine BQ.other (by decide) ?_ | refine VC.seq ?_ | refine AO.nil ?_ | refine VC.block ?_))
 obtain ⟨b3, hb3⟩ : ∃ b : Bool, b = (b2 || k == 2 && n != 0 && n != 1) := ⟨_, rfl⟩
 rw [← hb3]; replace hb3 := Lib.hid hb3
 have hE : (⟨#[]⟩ : ByteArray).toList = [] := q17 []
 (iterate 10 (first | refine pass ?_ | refine VC.region (by rfl) (by rfl) ?_ | (refine AO.step fun K hK => ?_; simp only [q0n, List.length_map, q17, hE, go_sem, Int.reduceBEq, Int.reduceLE, Int.reduceLT, Int.reduceNeg, Nat.reduceAdd, Nat.reduceEqDiff, Nat.reduceLT, Nat.reduceLeDiff, Nat.reduceMul, Nat.reduceSub, reduceCtorEq, ↓reduceIte]; (first | refine q4q ?_ | refine q1k ?_ | skip); (first | refine hK _ _ _ ?_ | refine ⟨by first | omega | exact ⟨_, rfl, rfl⟩ | exact fun _ => ⟨_, rfl, rfl⟩ | (intro h; simp only [q0n, List.length_map, q17, hE, h, true_and]; omega) | (clear hK; intro h; simp_all <;> omega), hK _ _ _ ?_⟩); clear hK K) | refine VC.draw mixP (by rfl) (by rfl) ?_ | refine ⟨q4v (by kernel_rfl), ?_⟩ | refine BQ.other (by decide) ?_ | refine VC.seq ?_ | refine AO.nil ?_ | refine VC.block ?_))
 obtain ⟨b4, hb4⟩ : ∃ b : Bool, b = (b3 || k != 4 && !s == []) := ⟨_, rfl⟩
 rw [← hb4]; replace hb4 := Lib.hid hb4
 refine q0c (@q0n) ?_
 refine q7o (@q0n) (hT) ?_
 (iterate 3 (first | refine pass ?_ | refine VC.region (by rfl) (by rfl) ?_ | (refine AO.step fun K hK => ?_; simp only [q0n, List.length_map, go_sem, Int.reduceBEq, Int.reduceLE, Int.reduceLT, Int.reduceNeg, Nat.reduceAdd, Nat.reduceEqDiff, Nat.reduceLT, Nat.reduceLeDiff, Nat.reduceMul, Nat.reduceSub, reduceCtorEq, ↓reduceIte]; (first | refine q4q ?_ | refine q1k ?_ | skip); (first | refine hK _ _ _ ?_ | refine ⟨by first | omega | exact ⟨_, rfl, rfl⟩ | exact fun _ => ⟨_, rfl, rfl⟩ | (intro h; simp only [q0n, List.length_map, h, true_and]; omega) | (clear hK; intro h; simp_all <;> omega), hK _ _ _ ?_⟩); clear hK K) | refine VC.draw mixP (by rfl) (by rfl) ?_ | refine ⟨q4v (by kernel_rfl), ?_⟩ | refine BQ.other (by decide) ?_ | refine VC.seq ?_ | refine AO.nil ?_ | refine VC.block ?_))
 obtain ⟨b5, hb5⟩ : ∃ b : Bool, b = (b4 || !q2p s) := ⟨_, rfl⟩
 rw [← hb5]; replace hb5 := Lib.hid hb5
 (iterate 11 (first | refine pass ?_ | refine VC.region (by rfl) (by rfl) ?_ | (refine AO.step fun K hK => ?_; simp only [q0n, List.length_map, go_sem, Int.reduceBEq, Int.reduceLE, Int.reduceLT, Int.reduceNeg, Nat.reduceAdd, Nat.reduceEqDiff, Nat.reduceLT, Nat.reduceLeDiff, Nat.reduceMul, Nat.reduceSub, reduceCtorEq, ↓reduceIte]; (first | refine q4q ?_ | refine q1k ?_ | skip); (first | refine hK _ _ _ ?_ | refine ⟨by first | omega | exact ⟨_, rfl, rfl⟩ | exact fun _ => ⟨_, rfl, rfl⟩ | (intro h; simp only [q0n, List.length_map, h, true_and]; omega) | (clear hK; intro h; simp_all <;> omega), hK _ _ _ ?_⟩); clear hK K) | refine VC.draw mixP (by rfl) (by rfl) ?_ | refine ⟨q4v (by kernel_rfl), ?_⟩ | refine BQ.other (by decide) ?_ | refine VC.seq ?_ | refine AO.nil ?_ | refine VC.block ?_))
 obtain ⟨b6, hb6⟩ : ∃ b : Bool, b = (b5 || decide (k < 5) && decide ((xs.length : Int) > 0)) := ⟨_, rfl⟩
 rw [← hb6]; replace hb6 := Lib.hid hb6
 (iterate 11 (first | refine pass ?_ | refine VC.region (by rfl) (by rfl) ?_ | (refine AO.step fun K hK => ?_; simp only [q0n, List.length_map, go_sem, Int.reduceBEq, Int.reduceLE, Int.reduceLT, Int.reduceNeg, Nat.reduceAdd, Nat.reduceEqDiff, Nat.reduceLT, Nat.reduceLeDiff, Nat.reduceMul, Nat.reduceSub, reduceCtorEq, ↓reduceIte]; (first | refine q4q ?_ | refine q1k ?_ | skip); (first | refine hK _ _ _ ?_ | refine ⟨by first | omega | exact ⟨_, rfl, rfl⟩ | exact fun _ => ⟨_, rfl, rfl⟩ | (intro h; simp only [q0n, List.length_map, h, true_and]; omega) | (clear hK; intro h; simp_all <;> omega), hK _ _ _ ?_⟩); clear hK K) | refine VC.draw mixP (by rfl) (by rfl) ?_ | refine ⟨q4v (by kernel_rfl), ?_⟩ | refine BQ.other (by decide) ?_ | refine VC.seq ?_ | refine AO.nil ?_ | refine VC.block ?_))
 obtain ⟨b7, hb7⟩ : ∃ b : Bool, b = (b6 || k != 6 && decide ((ks.length : Int) > 0)) := ⟨_, rfl⟩
 rw [← hb7]; replace hb7 := Lib.hid hb7
 (iterate 13 (first | refine pass ?_ | refine VC.region (by rfl) (by rfl) ?_ | (refine AO.step fun K hK => ?_; simp only [q0n, List.length_map, go_sem, Int.reduceBEq, Int.reduceLE, Int.reduceLT, Int.reduceNeg, Nat.reduceAdd, Nat.reduceEqDiff, Nat.reduceLT, Nat.reduceLeDiff, Nat.reduceMul, Nat.reduceSub, reduceCtorEq, ↓reduceIte]; (first | refine q4q ?_ | refine q1k ?_ | skip); (first | refine hK _ _ _ ?_ | refine ⟨by first | omega | exact ⟨_, rfl, rfl⟩ | exact fun _ => ⟨_, rfl, rfl⟩ | (intro h; simp only [q0n, List.length_map, h, true_and]; omega) | (clear hK; intro h; simp_all <;> omega), hK _ _ _ ?_⟩); clear hK K) | refine VC.draw mixP (by rfl) (by rfl) ?_ | refine ⟨q4v (by kernel_rfl), ?_⟩ | refine BQ.other (by decide) ?_ | refine VC.seq ?_ | refine AO.nil ?_ | refine VC.block ?_))
 obtain ⟨b8, hb8⟩ : ∃ b : Bool, b = (b7 || k == 6 && (ks.length : Int) != (xs.length : Int)) := ⟨_, rfl⟩
 rw [← hb8]; replace hb8 := Lib.hid hb8
 have hF : rfail (.mk k n s ks xs) = b8 := by
  rw [hb8.out, hb7.out, hb6.out, hb5.out, hb4.out, hb3.out, hb2.out, hb1.out, rfail]
  have e1 : ∀ a b : Int, decide (a ≠ b) = (a != b) := fun a b => by by_cases h : a = b <;> simp [h]
  have e2 : ∀ a b : Int, decide (a = b) = (a == b) := fun a b => by by_cases h : a = b <;> simp [h]
  have e3 : s.isEmpty = (s == []) := by cases s <;> rfl
  have e4 : (!xs.isEmpty) = decide ((xs.length : Int) > 0) := by cases xs <;> simp <;> omega
  have e5 : (!ks.isEmpty) = decide ((ks.length : Int) > 0) := by cases ks <;> simp <;> omega
  have e6 : decide (ks.length ≠ xs.length) = ((ks.length : Int) != (xs.length : Int)) := by
   by_cases h : ks.length = xs.length
   · simp [h]
   · have : ¬ (ks.length : Int) = (xs.length : Int) := by omega
     simp [h, this]
  simp only [e1, e2, e3, e4, e5, e6]
 refine q0c (@q0n) ?_
 refine VC.cond (by rfl) (by trivial) (fun hc => ?_) (fun hc => ?_)
 · have hf : V = false := by rw [hV, hF, hc]; simp
   subst hf
   refine q0a (@q0n) ?_
   refine retX Tryz.results157 ?_
   exact .c _
 have hv : V = ((ks.all q2p && decide ks.Nodup) && q6r xs) := by rw [hV, hF, hc]; simp
 clear hV hF hb1 hb2 hb3 hb4 hb5 hb6 hb7 hb8 hT
 refine q0c (@q0n) ?_
 refine VC.loop (ι := {i : Nat // i ≤ ks.length ∧ (∀ y ∈ ks.take i, q2p y = true) ∧ (ks.take i).Nodup})
  (fun q => [(1, .ref 0 1 0 0), (3, .c (.v (.int .i64 (q.1 : Int))))]) (fun q => [(0, ⟨false, 36, 5, [(JT.mk k n s ks xs).cells.map .c]⟩)]) 2000 (fun q => ks.length - q.1) ⟨0, Nat.zero_le _, by simp, by simp⟩ ?_ ?_
 · exact q2f (@q0n)
 · rintro ⟨i, hi, hr, hd⟩
   simp only []
   refine q0c (@q0n) ?_
   refine VC.cond (by rfl) (by trivial) (fun hc2 => ?_) (fun hc2 => ?_)
   · have hlt : i < ks.length := by simp at hc2; omega
     obtain ⟨y, hy⟩ : ∃ y, ks[i]? = some y := ⟨ks[i], List.getElem?_eq_getElem hlt⟩
     have hw : IntKind.i64.wrap ((i : Int) + 1) = (i : Int) + 1 := q0f (by omega) (by omega)
     have hT := z0j y (hks y (List.mem_of_getElem? hy))
     refine q0c (And.intro @q0n (And.intro @q4t (And.intro hy (And.intro @q4c (And.intro @q1z (And.intro @q18 @q19)))))) ?_
     refine q06 (@q0n) (hT) ?_
     refine q0c (@q0n) ?_
     refine VC.cond (by rfl) (by trivial) (fun hc3 => ?_) (fun hc3 => ?_)
     · have hf : V = false := by
        rw [hv]
        have : ks.all q2p = false := by
         rw [List.all_eq_false]
         exact ⟨y, List.mem_of_getElem? hy, by simpa using hc3⟩
        rw [this]
        rfl
       subst hf
       refine q0a (@q0n) ?_
       refine retX Tryz.results157 ?_
       exact .c _
     refine q0c (@q0n) ?_
     refine VC.loop (ι := {j : Nat // j ≤ i ∧ y ∉ ks.take j})
      (fun q => [(1, .ref 0 1 0 0), (3, .c (.v (.int .i64 (i : Int)))), (4, .c (.v (.int .i64 (q.1 : Int))))]) (fun q => [(0, ⟨false, 36, 5, [(JT.mk k n s ks xs).cells.map .c]⟩)]) 2000 (fun q => i - q.1) ⟨0, Nat.zero_le _, by simp⟩ ?_ ?_
     · exact q2f (@q0n)
     · rintro ⟨j, hj, hn⟩
       simp only []
       refine q0c (@q0n) ?_
       refine VC.cond (by rfl) (by trivial) (fun hc4 => ?_) (fun hc4 => ?_)
       · have hjt : j < i := by simp at hc4; omega
         obtain ⟨z, hz⟩ : ∃ z, ks[j]? = some z := ⟨ks[j], List.getElem?_eq_getElem (by omega)⟩
         have hwj : IntKind.i64.wrap ((j : Int) + 1) = (j : Int) + 1 := q0f (by omega) (by omega)
         refine q0c (And.intro @q0n (And.intro @q4t (And.intro hy (And.intro hz (And.intro @q4c (And.intro @q1z (And.intro @q18 (And.intro @q19 @q17)))))))) ?_
         refine VC.cond (by rfl) (by trivial) (fun hc5 => ?_) (fun hc5 => ?_)
         · have hf : V = false := by
            rw [hv]
            have : decide ks.Nodup = false := by
             rw [decide_eq_false_iff_not]
             intro hnd
             have hzy : z = y := by simpa using hc5
             subst hzy
             exact absurd ((List.getElem?_inj (by omega) hnd).1 (hz.trans hy.symm)) (by omega)
            rw [this]
            simp
           subst hf
           refine q0a (@q0n) ?_
           refine retX Tryz.results157 ?_
           exact .c _
         refine q0c (hwj) ?_
         refine .next ⟨j + 1, by omega, ?_⟩ ?_ (by simp only []; omega)
         · rw [takeN hz]
           have hzy : z ≠ y := by simpa using hc5
           simp [hn, Ne.symm hzy]
         simp only [q0n, Weak, eq_self, q0v, q0p, sc_c, q0r, q0s, q0t, q0o, q0q, ScL, q0u, List.forall_mem_map, go_sem, Int.reduceBEq, Int.reduceLE, Int.reduceLT, Int.reduceNeg, Nat.reduceAdd, Nat.reduceEqDiff, Nat.reduceLT, Nat.reduceLeDiff, Nat.reduceMul, Nat.reduceSub, reduceCtorEq, ↓reduceIte]
         try exact cI (by omega)
       · have hji : j = i := by simp at hc4; omega
         refine q0c (hw) ?_
         refine .next ⟨i + 1, by omega, ?_, ?_⟩ ?_ (by simp only []; omega)
         · rw [takeN hy]
           intro u hu
           rcases List.mem_append.1 hu with h | h
           · exact hr u h
           · obtain rfl := List.mem_singleton.1 h
             simpa using hc3
         · rw [takeN hy, List.nodup_append]
           refine ⟨hd, by simp, ?_⟩
           intro a ha b hb
           obtain rfl := List.mem_singleton.1 hb
           rintro rfl
           exact hn (hji ▸ ha)
         simp only [q0n, Weak, eq_self, q0v, q0p, sc_c, q0r, q0s, q0t, q0o, q0q, ScL, q0u, List.forall_mem_map, go_sem, Int.reduceBEq, Int.reduceLE, Int.reduceLT, Int.reduceNeg, Nat.reduceAdd, Nat.reduceEqDiff, Nat.reduceLT, Nat.reduceLeDiff, Nat.reduceMul, Nat.reduceSub, reduceCtorEq, ↓reduceIte]
         try exact cI (by omega)
   · have hie : i = ks.length := by simp at hc2; omega
     subst hie
     rw [List.take_length] at hr hd
     have hv : V = q6r xs := by
      rw [hv, List.all_eq_true.2 hr]
      simp [hd]
     refine q0c (@q0n) ?_
     refine VC.loop (ι := {i : Nat // i ≤ xs.length ∧ (∀ y ∈ xs.take i, q5z y = true)})
      (fun q => [(1, .ref 0 1 0 0), (5, .c (.v (.int .i64 (q.1 : Int))))]) (fun q => [(0, ⟨false, 36, 5, [(JT.mk k n s ks xs).cells.map .c]⟩)]) 2000 (fun q => xs.length - q.1) ⟨0, Nat.zero_le _, by simp⟩ ?_ ?_
     · exact q2f (@q0n)
     · rintro ⟨i, hi, hr⟩
       simp only []
       refine q0c (@q0n) ?_
       refine VC.cond (by rfl) (by trivial) (fun hc3 => ?_) (fun hc3 => ?_)
       · have hlt : i < xs.length := by simp at hc3; omega
         obtain ⟨y, hy⟩ : ∃ y, xs[i]? = some y := ⟨xs[i], List.getElem?_eq_getElem hlt⟩
         have hw : IntKind.i64.wrap ((i : Int) + 1) = (i : Int) + 1 := q0f (by omega) (by omega)
         have hyc : (xs.map JT.cells)[i]? = some y.cells := by rw [List.getElem?_map, hy]; rfl
         have hT := hx y (List.mem_of_getElem? hy)
         simp only [JT.av] at hT
         refine q0c (And.intro @q0n (And.intro hyc (And.intro @q1z (And.intro @q18 @q19)))) ?_
         refine q06 (And.intro @q1z (And.intro @q18 (And.intro @q19 @q02))) (hT) ?_
         refine q0c (@q0n) ?_
         refine VC.cond (by rfl) (by trivial) (fun hc5 => ?_) (fun hc5 => ?_)
         · have hf : V = false := by
            rw [hv, j6l, List.all_eq_false]
            exact ⟨y, List.mem_of_getElem? hy, by simpa using hc5⟩
           subst hf
           refine q0a (@q0n) ?_
           refine retX Tryz.results157 ?_
           exact .c _
         refine q0c (hw) ?_
         refine .next ⟨i + 1, by omega, ?_⟩ ?_ (by simp only []; omega)
         · rw [takeN hy]
           intro u hu
           rcases List.mem_append.1 hu with h | h
           · exact hr u h
           · obtain rfl := List.mem_singleton.1 h
             simpa using hc5
         simp only [q0n, Weak, eq_self, q0v, q0p, sc_c, q0r, q0s, q0t, q0o, q0q, ScL, q0u, List.forall_mem_map, go_sem, Int.reduceBEq, Int.reduceLE, Int.reduceLT, Int.reduceNeg, Nat.reduceAdd, Nat.reduceEqDiff, Nat.reduceLT, Nat.reduceLeDiff, Nat.reduceMul, Nat.reduceSub, reduceCtorEq, ↓reduceIte]
         try exact cI (by omega)
       · have hie : i = xs.length := by simp at hc3; omega
         subst hie
         rw [List.take_length] at hr
         have hf : V = true := by
          rw [hv, j6l, List.all_eq_true.2 hr]
         subst hf
         refine q0c (@q0n) ?_
         refine retX Tryz.results157 ?_
         exact .c _

theorem z4q : ∀ (m : Nat) (t : JT), SizeOf.sizeOf t ≤ m → q2b t ≤ 1000 → Told Tryz.prog 56 [t.av] (.c (.v (.int .i64 (q2b t)))) := by
 intro m
 induction m with
 | zero => intro t ht; cases t; simp at ht
 | succ m ih =>
 intro t ht hd
 cases t with
 | mk k n s ks xs =>
 refine VC.told ent_56 Tryz.func56 rfl Tryz.ntmps56 (by simp) rfl rfl fun hb => ?_
 simp only [JT.av, q0n, List.map_cons, List.map_nil, j2t, q5n, pbd_v, q5x, List.mem_cons, List.not_mem_nil, or_false, forall_eq_or_imp, forall_eq, true_and, List.length_map] at hb ⊢
 have hxl := hb.1.1
 clear hb
 refine q0b ?_
 refine VC.cond (by rfl) (by trivial) (fun hc => ?_) (fun hc => ?_)
 · have hk : ¬ (k = 5 ∨ k = 6) := by
    simp at hc
    omega
   have hdd : q2b (.mk k n s ks xs) = 0 := by simp [q2b, hk]
   rw [hdd]
   refine q0b ?_
   refine ⟨.inr rfl, ?_⟩
   rw [Tryz.results56]
   simp only [q1f, resV, go_sem, simprocAttr]
   exact .c _
 · have hk : k = 5 ∨ k = 6 := by
    simp at hc
    omega
   have hdd : q2b (.mk k n s ks xs) = q3i 1 xs := by simp [q2b, hk]
   rw [hdd] at hd ⊢
   clear hc
   refine q0b ?_
   refine VC.loop (ι := {i : Nat // i ≤ xs.length}) (fun i => [(1, .ref 0 1 0 0), (3, .c (.v (.int .i64 (q3i 1 (xs.take i.1))))), (4, .c (.v (.int .i64 i.1)))])
    (fun _ => [(0, ⟨false, 36, 5, [(JT.mk k n s ks xs).cells.map .c]⟩)]) 8 (fun i => xs.length - i.1) ⟨0, Nat.zero_le _⟩ ?_ ?_
   · simp only [List.take_zero, q3i, q0n, Weak, eq_self, q0v, q0p, sc_c, q0r, q0s, q0t, q0o, q0q, ScL, q0u, List.forall_mem_map, go_sem, Int.reduceBEq, Int.reduceLE, Int.reduceLT, Int.reduceNeg, Nat.reduceAdd, Nat.reduceEqDiff, Nat.reduceLT, Nat.reduceLeDiff, Nat.reduceMul, Nat.reduceSub, reduceCtorEq, ↓reduceIte]
     all_goals rfl
   rintro ⟨i, hi⟩
   refine q0c (@q0n) ?_
   refine VC.cond (by rfl) (by trivial) (fun hc => ?_) (fun hc => ?_)
   · simp only [decide_eq_true_eq] at hc
     have hlt : i < xs.length := by omega
     obtain ⟨x, hx⟩ : ∃ x, xs[i]? = some x := ⟨xs[i], List.getElem?_eq_getElem hlt⟩
     have hxm := List.mem_of_getElem? hx
     have hle := (z03 xs 1).2 x hxm
     have hcall := ih x (by
      have h1 := List.sizeOf_lt_of_mem hxm
      simp at ht
      omega) (by omega)
     have hmm : q3i 1 (xs.take (i + 1)) = max (q3i 1 (xs.take i)) (1 + q2b x) := by
      rw [← z04, List.take_add_one, hx]
      rfl
     have hw : IntKind.i64.wrap ((q2b x : Int) + 1) = (q2b x : Int) + 1 := q0f (by omega) (by omega)
     have hw2 : IntKind.i64.wrap ((i : Int) + 1) = (i : Int) + 1 := q0f (by omega) (by omega)
     refine q0c (And.intro @q0n (And.intro @q4t (And.intro hx (And.intro @q1z (And.intro @q18 @q19))))) ?_
     (refine AO.step fun K hK => ?_; simp only [go_sem, Int.reduceBEq, Int.reduceLE, Int.reduceLT, Int.reduceNeg, Nat.reduceAdd, Nat.reduceEqDiff, Nat.reduceLT, Nat.reduceLeDiff, Nat.reduceMul, Nat.reduceSub, reduceCtorEq, ↓reduceIte, q02]; (first | refine q1k ?_ | skip))
     refine .inl ⟨_, hcall, hK _ _ _ ?_⟩
     clear hK K
     refine q0c (And.intro hw hw2) ?_
     refine VC.cond (by rfl) (by trivial) (fun hc2 => ?_) (fun hc2 => ?_)
     · simp only [decide_eq_true_eq] at hc2
       refine q0c (hw2) ?_
       refine .next ⟨i + 1, by omega⟩ ?_ (by simp only []; omega)
       refine q1j (And.intro hmm @q0n) ?_
       exact ⟨cI (by omega), cI (by omega)⟩
     · simp only [decide_eq_false_iff_not] at hc2
       refine q0c (hw2) ?_
       refine .next ⟨i + 1, by omega⟩ ?_ (by simp only []; omega)
       refine q1j (And.intro hmm @q0n) ?_
       exact ⟨cI (by omega), cI (by omega)⟩
   · simp only [decide_eq_false_iff_not] at hc
     obtain rfl : i = xs.length := by omega
     refine q0b ?_
     refine ⟨.inr rfl, ?_⟩
     rw [Tryz.results56]
     simp only [q1f, resV, go_sem, simprocAttr]
     rw [List.take_length]
     exact .c _

theorem z5j (t : JT) (h1 : t.sm 1000000) (h2 : q2b t ≤ 1000) : Told Tryz.prog 103 [t.av] (.c (.v (.bool (jR t)))) := by
 have hS := z5l _ t (Nat.le_refl _) h1
 have hD := z4q _ t (Nat.le_refl _) h2
 have hV : jR t = (decide ((q2b t : Int) ≤ 32) && q5z t) := by
  rw [jR_shape]
  congr 1
  by_cases h : q2b t ≤ 32
  · simp [h]; omega
  · simp [h]; omega
 obtain ⟨V, hVV⟩ : ∃ V, V = jR t := ⟨_, rfl⟩
 rw [← hVV] at hV ⊢
 refine VC.told ent_103 Tryz.func103 rfl Tryz.ntmps103 (by simp) (by simp [AV.pureB, AV.pureL, JT.av, q02]) rfl fun hb => ?_
 clear hb
 refine q0c (And.intro @JT.av_eq (And.intro @q1z (And.intro @q18 @q19))) ?_
 refine q06 (And.intro @JT.av_eq (And.intro @q1z (And.intro @q18 (And.intro @q19 @q02)))) (hD) ?_
 refine q0c (And.intro @JT.av_eq (And.intro @q1z (And.intro @q18 @q19))) ?_
 refine q7o (And.intro @JT.av_eq (And.intro @q1z (And.intro @q18 (And.intro @q19 @q02)))) (hS) ?_
 refine q0b ?_
 refine retX Tryz.results103 ?_
 rw [hV]
 exact .c _

def q0l (n : NT) : NT := ⟨n.kind, if q1h n.kind = true then n.name else [], if q1h n.kind = true then n.aliases else [], if n.kind = 9 then n.fields else [], if n.kind = 10 then n.symbols else [], if n.kind = 10 then n.has else false,
 if n.kind = 10 then n.dflt else [], if n.kind = 14 then n.size else 0, if n.kind = 11 ∨ n.kind = 12 then n.items else 0, if n.kind = 13 then n.branches else []⟩
theorem z2p (n : NT) : q64 n = ceq n (q0l n) := by
 obtain ⟨k, a, b, c, d, e, f, g, h, i⟩ := n
 rw [Bool.eq_iff_iff, q65, q0l, NT.mk.injEq, q64]
 simp only [Bool.and_eq_true, Bool.or_eq_true, List.isEmpty_iff, beq_iff_eq, Bool.not_eq_true', true_and]
 constructor
 · rintro ⟨h1, h2, h3, h4, h5, h6⟩
   refine ⟨?_, ?_, ?_, ?_, ?_, ?_, ?_, ?_, ?_⟩
   · split
     · rfl
     · rename_i hn
       rcases h1 with h1 | h1
       · exact absurd h1 hn
       · exact h1.1
   · split
     · rfl
     · rename_i hn
       rcases h1 with h1 | h1
       · exact absurd h1 hn
       · exact h1.2
   · split
     · rfl
     · rename_i hn
       rcases h2 with h2 | h2
       · exact absurd h2 hn
       · exact h2
   · split
     · rfl
     · rename_i hn
       rcases h3 with h3 | h3
       · exact absurd h3 hn
       · exact h3.1
   · split
     · rfl
     · rename_i hn
       rcases h3 with h3 | h3
       · exact absurd h3 hn
       · exact h3.2.1
   · split
     · rfl
     · rename_i hn
       rcases h3 with h3 | h3
       · exact absurd h3 hn
       · exact h3.2.2
   · split
     · rfl
     · rename_i hn
       rcases h4 with h4 | h4
       · exact absurd h4 hn
       · exact h4
   · split
     · rfl
     · rename_i hn
       rcases h5 with (h5 | h5) | h5
       · exact absurd (.inl h5) hn
       · exact absurd (.inr h5) hn
       · exact h5
   · split
     · rfl
     · rename_i hn
       rcases h6 with h6 | h6
       · exact absurd h6 hn
       · exact h6
 · rintro ⟨h1, h2, h3, h4, h5, h6, h7, h8, h9⟩
   refine ⟨?_, ?_, ?_, ?_, ?_, ?_⟩
   · by_cases hn : q1h k = true
     · exact .inl hn
     · rw [if_neg hn] at h1 h2
       exact .inr ⟨h1, h2⟩
   · by_cases hn : k = 9
     · exact .inl hn
     · rw [if_neg hn] at h3
       exact .inr h3
   · by_cases hn : k = 10
     · exact .inl hn
     · rw [if_neg hn] at h4 h5 h6
       exact .inr ⟨h4, h5, h6⟩
   · by_cases hn : k = 14
     · exact .inl hn
     · rw [if_neg hn] at h7
       exact .inr h7
   · by_cases hn : k = 11 ∨ k = 12
     · rcases hn with hn | hn
       · exact .inl (.inl hn)
       · exact .inl (.inr hn)
     · rw [if_neg hn] at h8
       exact .inr h8
   · by_cases hn : k = 13
     · exact .inl hn
     · rw [if_neg hn] at h9
       exact .inr h9
theorem j77 {ns : List NT} : ∀ (l d : List Int) (k : Int), q4e ns d (l ++ [k]) = (q4e ns d l && j12 ns (d ++ l) k)
 | [], d, k => by simp [q4e]
 | x :: l, d, k => by
   rw [List.cons_append, q4e, q4e, j77 l (d ++ [x]) k, Bool.and_assoc, List.append_assoc]
   rfl
theorem z5k (a b : NT) : Told Tryz.prog 148 [a.av, b.av] (.c (.v (.bool (ceq a b)))) := by
 have hO := rone_told a b
 obtain ⟨V, hV⟩ : ∃ V, V = ceq a b := ⟨_, rfl⟩
 rw [← hV] at hO ⊢
 simp only [NT.av_eq] at hO
 rw [NT.av_eq, NT.av_eq]
 refine VC.toldP ent_148 Tryz.func148 rfl Tryz.ntmps148 fun hb => ?_
 clear hb
 refine q0c (And.intro @q1m (And.intro @j6v @j6w)) ?_
 refine q06 (@q02) (hO) ?_
 refine q0b ?_
 refine retX Tryz.results148 ?_
 exact .c _
def okN (n : NT) : Bool := !q1h n.kind || (q3l n.name && (q5u n.name == 0 && allM q3l n.aliases))
theorem z5f (s : ST) (n : NT) (hsm : n.sm 1000000) (hbr : n.kind = 13 → ∀ k ∈ n.branches, 0 ≤ k ∧ k < (s.nodes.length : Int)) (hdp : ∀ f ∈ n.fields, q2b f.dflt ≤ 1000) : Told Tryz.prog 90 [s.av, n.av] (.c (.v (.bool (q2h s.nodes n)))) := by
 obtain ⟨V, hV⟩ : ∃ V, V = q2h s.nodes n := ⟨_, rfl⟩
 rw [← hV]
 unfold q2h at hV
 obtain ⟨hn1, hn2, ⟨ha1, ha2⟩, ⟨hs1, hs2⟩, hb1, hf1, hf2⟩ := hsm
 have hN := j36 n.kind
 have hF := j98 n.name (by omega)
 have hKd := z4x n.name
 have hSame := z5k n (q0l n)
 rw [← z2p] at hSame
 have hpart : q0l n = q0l n := rfl
 obtain ⟨bB, hBB⟩ : ∃ b, b = q64 n := ⟨_, rfl⟩
 rw [← hBB] at hV hSame
 obtain ⟨X, hX⟩ : ∃ X, X = okN n := ⟨_, rfl⟩
 have hX0 := hX
 unfold okN at hX0
 rw [← hX0] at hV
 obtain ⟨bF, hFF⟩ : ∃ b, b = q3l n.name := ⟨_, rfl⟩
 obtain ⟨kK, hKK⟩ : ∃ b, b = q5u n.name := ⟨_, rfl⟩
 rw [← hFF] at hX0 hF
 rw [← hKK] at hX0 hKd
 rw [NT.av_eq, q0d, ST.av_eq, q0i]
 simp only [NT.av_eq] at hSame
 refine VC.toldP ent_90 Tryz.func90 rfl Tryz.ntmps90 fun hb => ?_
 clear hb
 refine j0r ?_
 refine j0r ?_
 refine VC.frz [] [(2, .ref 0 1 0 0), (3, .ref 8 1 0 0), (5, .ref 48 1 0 0)] [(0, ⟨false, 24, 2, [s.cells.map .c]⟩), (8, ⟨false, 33, 10, [n.cells.map .c]⟩), (48, ⟨false, 33, 10, [(⟨n.kind, [], [], [], [], false, [], 0, 0, []⟩ : NT).cells.map .c]⟩)] 400 ?_ ?_
 · refine q5c (And.intro @q0d @q0i) ?_
   exact ⟨⟨.same _, .same _, .same _⟩, .same _, .same _, .one (.cons (.same _) (.cons (.same _) (.cons (.nil 1) (.cons (.nil 9) (.cons (.nil 1) (.cons (.same _) (.cons (.same _) (.cons (.same _) (.cons (.same _) (.cons (.nil 1) .nil)))))))))) (by simp [AV.cellish])⟩
 refine q0c (And.intro @q0d @q0i) ?_
 refine q0j (hN) ?_
 refine q0b ?_
 refine VC.meetF (ι := {u : Unit // X = true}) (fun _ => [(2, .ref 0 1 0 0), (3, .ref 8 1 0 0), (5, .ref 48 1 0 0)]) (fun _ => [(0, ⟨false, 24, 2, [s.cells.map .c]⟩), (8, ⟨false, 33, 10, [n.cells.map .c]⟩), (48, ⟨false, 33, 10, [(⟨n.kind, (q0l n).name, (q0l n).aliases, [], [], false, [], 0, 0, []⟩ : NT).cells.map .c]⟩)]) 4000 ?_ ?_
 · refine VC.cond (by rfl) (by trivial) (fun hc => ?_) (fun hc => ?_)
   · have hpn : (q0l n).name = n.name := by simp [q0l, hc]
     have hpa : (q0l n).aliases = n.aliases := by simp [q0l, hc]
     rw [hc, Bool.not_true, Bool.false_or] at hX0
     refine q0c (And.intro @q0d @q0i) ?_
     refine q0j (hF) ?_
     refine q0c (@q0d) ?_
     refine q2m (hKd) ?_
     refine q0c (@q0d) ?_
     refine VC.cond (by rfl) (by trivial) (fun hc2 => ?_) (fun hc2 => ?_)
     · have hf : V = false := by
        have : X = false := by
         rw [hX0, allM]
         cases bF with
         | false => rfl
         | true =>
           cases hk0 : kK == 0 with
           | false => simp
           | true =>
             have hk1 : kK = 0 := by simpa using hk0
             have hl : ¬ n.aliases.length ≤ 40 := by
              simp [hk1] at hc2
              omega
             simp [hl]
        rw [hV, this]
        simp
       subst hf
       refine q0b ?_
       refine retX Tryz.results90 ?_
       exact .c _
     · obtain ⟨hbf, hk0, hl40⟩ : bF = true ∧ kK = 0 ∧ n.aliases.length ≤ 40 := by
        cases bF <;> simp at hc2 ⊢
        omega
       have hXa : X = n.aliases.all q3l := by
        rw [hX0, allM, hbf, hk0]
        simp [hl40]
       refine q0b ?_
       refine VC.loop (ι := {i : Nat // i ≤ n.aliases.length ∧ ∀ (j : Nat) (x : List UInt8), j < i → n.aliases[j]? = some x → q3l x = true}) (fun q => [(2, .ref 0 1 0 0), (3, .ref 8 1 0 0), (5, .ref 48 1 0 0), (6, .c (.v (.int .i64 (q.1 : Int))))])
        (fun _ => [(0, ⟨false, 24, 2, [s.cells.map .c]⟩), (8, ⟨false, 33, 10, [n.cells.map .c]⟩), (48, ⟨false, 33, 10, [(⟨n.kind, n.name, n.aliases, [], [], false, [], 0, 0, []⟩ : NT).cells.map .c]⟩)]) 2000 (fun q => n.aliases.length - q.1) ⟨0, Nat.zero_le _, fun j x h => by omega⟩ ?_ ?_
       · exact q2f (And.intro @q0d @q0i)
       rintro ⟨i, hi, ht⟩
       simp only []
       refine q0c (@q0d) ?_
       refine VC.cond (by rfl) (by trivial) (fun hc3 => ?_) (fun hc3 => ?_)
       · have hlt : i < n.aliases.length := by simp at hc3; omega
         obtain ⟨x, hx⟩ : ∃ x, n.aliases[i]? = some x := ⟨n.aliases[i], List.getElem?_eq_getElem hlt⟩
         have hw : IntKind.i64.wrap ((i : Int) + 1) = (i : Int) + 1 := q0f (by omega) (by omega)
         have hxp : (n.aliases.map sPV)[i]? = some (sPV x) := by rw [List.getElem?_map, hx]; rfl
         have hFx := j98 x (by have := ha2 x (List.mem_of_getElem? hx); omega)
         refine q0c (And.intro @q0d (And.intro hxp @q4c)) ?_
         refine q0j (hFx) ?_
         refine q0b ?_
         refine VC.cond (by rfl) (by trivial) (fun hc4 => ?_) (fun hc4 => ?_)
         · have hf : V = false := by
            have : X = false := by
             rw [hXa, List.all_eq_false]
             exact ⟨x, List.mem_of_getElem? hx, by simpa using hc4⟩
            rw [hV, this]
            simp
           subst hf
           refine q0b ?_
           refine retX Tryz.results90 ?_
           exact .c _
         · have hfx : q3l x = true := by simpa using hc4
           refine q0c (hw) ?_
           refine .next ⟨i + 1, by omega, ?_⟩ ?_ (by simp only []; omega)
           · intro j y hj hy
             by_cases hji : j < i
             · exact ht j y hji hy
             · obtain rfl : j = i := by omega
               rw [hx] at hy
               obtain rfl := Option.some.inj hy
               exact hfx
           refine q1j (And.intro @q0d @q0i) ?_
           exact cI (by omega)
       · have hie : i = n.aliases.length := by simp at hc3; omega
         have hXt : X = true := by
          rw [hXa, List.all_eq_true]
          intro y hy
          obtain ⟨j, hj⟩ := List.getElem?_of_mem hy
          exact ht j y (by have := (List.getElem?_eq_some_iff.1 hj).1; omega) hj
         refine q0b ?_
         refine .normal ⟨(), hXt⟩ ?_
         exact q2f (And.intro @q0d (And.intro @q0i (And.intro hpn hpa)))
   · have hpn : (q0l n).name = [] := by simp [q0l, hc]
     have hpa : (q0l n).aliases = [] := by simp [q0l, hc]
     refine q0b ?_
     refine .normal ⟨(), by rw [hX0, hc]; rfl⟩ ?_
     exact q2f (And.intro @q0d (And.intro @q0i (And.intro hpn hpa)))
 rintro ⟨_, hXt⟩
 rw [hXt, Bool.true_and] at hV
 clear hX hX0 hXt hN hF hKd hFF hKK ha2
 refine walkRF (@q0d) ?_
 refine VC.seq ?_
 refine VC.meetF (ι := {ok : Bool // V = (ok && bB)}) (fun q => [(2, .ref 0 1 0 0), (3, .ref 8 1 0 0), (5, .ref 48 1 0 0), (7, .c (.v (.bool q.1)))]) (fun _ => [(0, ⟨false, 24, 2, [s.cells.map .c]⟩), (8, ⟨false, 33, 10, [n.cells.map .c]⟩), (48, ⟨false, 33, 10, [(q0l n).cells.map .c]⟩)]) 8000 ?_ ?_
 rotate_left
 · rintro ⟨ok, hok⟩
   simp only []
   simp only [q0d, List.map_cons, List.map_nil] at hSame
   refine q0c (And.intro @q0d @q0i) ?_
   refine q2m (hSame) ?_
   refine q0b ?_
   refine retX Tryz.results90 ?_
   rw [hok]
   exact .c _
 by_cases h9 : n.kind = 9
 · rw [h9] at hV
   have e9 : (n.kind == 9) = true := by simpa using h9
   have o1 : decide (n.kind ≥ 1) = true := by rw [h9]; rfl
   have o2 : decide (n.kind ≤ 14) = true := by rw [h9]; rfl
   have hV9 : V = (q56 n.fields && bB) := by rw [hV]; simp [Bool.and_comm]
   clear hV
   have pk : (q0l n).kind = n.kind := rfl
   have pf : (q0l n).fields = n.fields := by simp [q0l, h9]
   have ps : (q0l n).symbols = [] := by simp [q0l, h9]
   have ph : (q0l n).has = false := by simp [q0l, h9]
   have pd : (q0l n).dflt = [] := by simp [q0l, h9]
   have pz : (q0l n).size = 0 := by simp [q0l, h9]
   have pi : (q0l n).items = 0 := by simp [q0l, h9]
   have pb : (q0l n).branches = [] := by simp [q0l, h9]
   refine q0a (And.intro @q0d e9) ?_
   refine VC.nil 8 9 1 (by rfl) (by trivial) (by rfl) ?_
   refine VC.loop (ι := {i : Nat // i ≤ n.fields.length}) (fun q => [(2, .ref 0 1 0 0), (3, .ref 8 1 0 0), (5, .ref 48 1 0 0), (7, .c (.v (.bool ((n.fields.take q.1).all q4f)))), (8, .row 4152 q.1), (9, .c (.v (.int .i64 (q.1 : Int))))])
    (fun q => [(0, ⟨false, 24, 2, [s.cells.map .c]⟩), (8, ⟨false, 33, 10, [n.cells.map .c]⟩), (48, ⟨false, 33, 10, [(q0l n).cells.map .c]⟩), (4152, ⟨true, 9, 1, rA sPV ((n.fields.map (·.name)).take q.1)⟩)]) 5000 (fun q => n.fields.length - q.1) ⟨0, Nat.zero_le _⟩ ?_ ?_
   · exact q2f (And.intro @q0d (And.intro @q0i (And.intro @q0x (And.intro @q1l (And.intro @q7a (And.intro o1 (And.intro o2 (And.intro pk (And.intro pf (And.intro ps (And.intro ph (And.intro pd (And.intro pz (And.intro pi pb))))))))))))))
   rintro ⟨i, hi⟩
   simp only []
   refine q0c (And.intro @q0d @q0i) ?_
   refine VC.cond (by rfl) (by trivial) (fun hc => ?_) (fun hc => ?_)
   · have hlt : i < n.fields.length := by simp at hc; omega
     obtain ⟨f, hx⟩ : ∃ f, n.fields[i]? = some f := ⟨n.fields[i], List.getElem?_eq_getElem hlt⟩
     have hw : IntKind.i64.wrap ((i : Int) + 1) = (i : Int) + 1 := q0f (by omega) (by omega)
     have hxp : (n.fields.map FT.cells)[i]? = some f.cells := by rw [List.getElem?_map, hx]; rfl
     have hln : (rA sPV ((n.fields.map (·.name)).take i)).length = i := by rw [q0x]; simp; omega
     have hr : rA sPV ((n.fields.map (·.name)).take i) ++ [[.c (.v (.string (str f.name)))]] = rA sPV ((n.fields.map (·.name)).take (i + 1)) := by
      rw [List.take_add_one, List.getElem?_map, hx]
      exact q7b sPV _ f.name
     have hl2 : (rA sPV ((n.fields.map (·.name)).take (i + 1))).length = i + 1 := by rw [q0x]; simp; omega
     obtain ⟨g1, g2, g3, g4⟩ := hf2 f (List.mem_of_getElem? hx)
     have hA := j6n f.aliases (by omega) fun x hx => by have := g3 x hx; omega
     have hR := z5j f.dflt (sm_le (by omega) _ g4) (hdp f (List.mem_of_getElem? hx))
     have hS := z0i _ f.dflt q6p (Nat.le_refl _)
     simp only [JT.av] at hR
     have hM : q4f f = (allM q11 f.aliases && ((f.has && jR f.dflt) || (!f.has && jeq f.dflt q6p))) := by
      unfold q4f
      cases f.has <;> simp
     have hnx : (n.fields.take (i + 1)).all q4f = ((n.fields.take i).all q4f && q4f f) := by
      rw [List.take_add_one, hx, List.all_append]
      simp
     obtain ⟨b0, hb0⟩ : ∃ b, b = (n.fields.take i).all q4f := ⟨_, rfl⟩
     obtain ⟨b1, hb1⟩ : ∃ b, b = allM q11 f.aliases := ⟨_, rfl⟩
     obtain ⟨b2, hb2⟩ : ∃ b, b = jR f.dflt := ⟨_, rfl⟩
     obtain ⟨b3, hb3⟩ : ∃ b, b = jeq f.dflt q6p := ⟨_, rfl⟩
     rw [hM, ← hb0, ← hb1, ← hb2, ← hb3] at hnx
     rw [← hb0]
     rw [← hb1] at hA
     rw [← hb2] at hR
     rw [← hb3] at hS
     clear hM hb0 hb1 hb2 hb3
     cases hfh : f.has with
     | true =>
       rw [hfh] at hnx
       replace hnx := Lib.hid hnx
       refine q0c (And.intro @q0d (And.intro @q0i (And.intro hxp (And.intro @q3h (And.intro @q1z (And.intro @q18 (And.intro @q19 (And.intro hln (And.intro hr hfh))))))))) ?_
       refine q2m (hA) ?_
       refine q0c (And.intro @q3h (And.intro @q1z (And.intro @q18 (And.intro @q19 hfh)))) ?_
       refine q7o (@q02) (hR) ?_
       refine q0c (And.intro hfh hw) ?_
       refine .next ⟨i + 1, by omega⟩ ?_ (by simp only []; omega)
       simp only [q0d, q0i, hl2, q1l, hnx.out, Bool.and_assoc, Weak, eq_self, q0v, q0p, sc_c, q0r, q0s, q0t, q0o, q0q, ScL, q0u, List.forall_mem_map, go_sem, Int.reduceBEq, Int.reduceLE, Int.reduceLT, Int.reduceNeg, Nat.reduceAdd, Nat.reduceEqDiff, Nat.reduceLT, Nat.reduceLeDiff, Nat.reduceMul, Nat.reduceSub, reduceCtorEq, ↓reduceIte]
       exact ⟨cI (by omega), Nat.le_refl _⟩
     | false =>
       rw [hfh] at hnx
       replace hnx := Lib.hid hnx
       refine q0c (And.intro @q0d (And.intro @q0i (And.intro hxp (And.intro @q3h (And.intro @q1z (And.intro @q18 (And.intro @q19 (And.intro hln (And.intro hr hfh))))))))) ?_
       refine q2m (hA) ?_
       refine q0c (And.intro @q3h (And.intro @q1z (And.intro @q18 (And.intro @q19 hfh)))) ?_
       (refine AO.step fun K hK => ?_; simp only [go_sem, Int.reduceBEq, Int.reduceLE, Int.reduceLT, Int.reduceNeg, Nat.reduceAdd, Nat.reduceEqDiff, Nat.reduceLT, Nat.reduceLeDiff, Nat.reduceMul, Nat.reduceSub, reduceCtorEq, ↓reduceIte]; (first | refine q1k ?_ | skip))
       refine .inr (.inl ⟨.c (.v (.bool b3)), [f.dflt.av, q6p.av], [], fun hg => ⟨hg, by simp [AV.pureL, AV.pureB, JT.av, q02], rfl, fun k x z h5 h6 => ?_, rfl, hS⟩, hK _ _ _ ?_⟩)
       · match k with
         | 0 => obtain rfl := Option.some.inj h5; obtain rfl := Option.some.inj h6; exact .same _
         | 1 => obtain rfl := Option.some.inj h5; obtain rfl := Option.some.inj h6; exact z1n _
         | k + 2 => simp at h5
       clear hK K
       refine q0c (And.intro hfh hw) ?_
       refine .next ⟨i + 1, by omega⟩ ?_ (by simp only []; omega)
       simp only [q0d, q0i, hl2, q1l, hnx.out, Bool.and_assoc, Weak, eq_self, q0v, q0p, sc_c, q0r, q0s, q0t, q0o, q0q, ScL, q0u, List.forall_mem_map, go_sem, Int.reduceBEq, Int.reduceLE, Int.reduceLT, Int.reduceNeg, Nat.reduceAdd, Nat.reduceEqDiff, Nat.reduceLT, Nat.reduceLeDiff, Nat.reduceMul, Nat.reduceSub, reduceCtorEq, ↓reduceIte]
       exact ⟨cI (by omega), Nat.le_refl _⟩
   · have hie : i = n.fields.length := by simp at hc; omega
     have htk : (n.fields.map (·.name)).take i = n.fields.map (·.name) := List.take_of_length_le (by simp; omega)
     have htf : n.fields.take i = n.fields := List.take_of_length_le (by omega)
     rw [htk, htf]
     have hrl : (rA sPV (n.fields.map (·.name))).length = i := by rw [q0x]; simp; omega
     have hA := j6n (n.fields.map (·.name)) (by simp; omega) fun x hx => by
      obtain ⟨f, hf, rfl⟩ := List.mem_map.1 hx
      have := (hf2 f hf).1
      omega
     have hO := j6j (n.fields.map (·.name)) (by simp; omega)
     have hFi : q56 n.fields = ((n.fields.all q4f && allM q11 (n.fields.map (·.name))) && decide (n.fields.map (·.name)).Nodup) := by
      unfold q56 q3k allM
      simp [Bool.and_assoc]
     obtain ⟨b0, hb0⟩ : ∃ b, b = n.fields.all q4f := ⟨_, rfl⟩
     obtain ⟨b1, hb1⟩ : ∃ b, b = allM q11 (n.fields.map (·.name)) := ⟨_, rfl⟩
     obtain ⟨b2, hb2⟩ : ∃ b, b = decide (n.fields.map (·.name)).Nodup := ⟨_, rfl⟩
     rw [← hb0, ← hb1, ← hb2] at hFi
     rw [← hb0]
     rw [← hb1] at hA
     rw [← hb2] at hO
     clear hb0 hb1 hb2
     replace hFi := Lib.hid hFi
     refine q0c (And.intro @q0d (And.intro @q0i hrl)) ?_
     (refine AO.step fun K hK => ?_; simp only [go_sem, Int.reduceBEq, Int.reduceLE, Int.reduceLT, Int.reduceNeg, Nat.reduceAdd, Nat.reduceEqDiff, Nat.reduceLT, Nat.reduceLeDiff, Nat.reduceMul, Nat.reduceSub, reduceCtorEq, ↓reduceIte, hrl]; (first | refine q1k ?_ | skip))
     refine .inr (.inl ⟨.c (.v (.bool b1)), [.c (.sl 1 ((n.fields.map (·.name)).map sPV))], [4152], fun hg => ⟨hg, by simp [AV.pureL, AV.pureB], rfl, fun k x z h5 h6 => ?_, rfl, hA⟩, hK _ _ _ ?_⟩)
     · match k with
       | 0 =>
         obtain rfl := Option.some.inj h5
         obtain rfl := Option.some.inj h6
         exact View.row (B := ⟨true, 9, 1, rA sPV (n.fields.map fun f : FT => f.name)⟩) (es := (n.fields.map fun f : FT => f.name).map sPV) rfl rfl hrl (q5j _ _)
       | k + 1 => simp at h5
     clear hK K
     refine q0c (hrl) ?_
     (refine AO.step fun K hK => ?_; simp only [go_sem, Int.reduceBEq, Int.reduceLE, Int.reduceLT, Int.reduceNeg, Nat.reduceAdd, Nat.reduceEqDiff, Nat.reduceLT, Nat.reduceLeDiff, Nat.reduceMul, Nat.reduceSub, reduceCtorEq, ↓reduceIte, hrl]; (first | refine q1k ?_ | skip))
     refine .inr (.inl ⟨.c (.v (.bool b2)), [.c (.sl 1 ((n.fields.map (·.name)).map sPV))], [4152], fun hg => ⟨hg, by simp [AV.pureL, AV.pureB], rfl, fun k x z h5 h6 => ?_, rfl, hO⟩, hK _ _ _ ?_⟩)
     · match k with
       | 0 =>
         obtain rfl := Option.some.inj h5
         obtain rfl := Option.some.inj h6
         exact View.row (B := ⟨true, 9, 1, rA sPV (n.fields.map fun f : FT => f.name)⟩) (es := (n.fields.map fun f : FT => f.name).map sPV) rfl rfl hrl (q5j _ _)
       | k + 1 => simp at h5
     clear hK K
     refine q0b ?_
     refine .normal ⟨(b0 && b1) && b2, by rw [hV9, hFi.out]⟩ ?_
     exact q2f (And.intro @q0d @q0i)
 by_cases h10 : n.kind = 10
 · rw [h10] at hV
   have e9 : (n.kind == 9) = false := by simpa using h9
   have e10 : (n.kind == 10) = true := by simpa using h10
   have o1 : decide (n.kind ≥ 1) = true := by rw [h10]; rfl
   have o2 : decide (n.kind ≤ 14) = true := by rw [h10]; rfl
   have hV10 : V = ((((n.has == n.symbols.contains n.dflt) && (n.has || n.dflt.isEmpty)) && (decide (1 ≤ n.symbols.length) && (decide (n.symbols.length ≤ 40) && q3k q11 n.symbols))) && bB) := by rw [hV]; simp [Bool.and_comm]
   clear hV
   have pk : (q0l n).kind = n.kind := rfl
   have pf : (q0l n).fields = [] := by simp [q0l, h10]
   have ps : (q0l n).symbols = n.symbols := by simp [q0l, h10]
   have ph : (q0l n).has = n.has := by simp [q0l, h10]
   have pd : (q0l n).dflt = n.dflt := by simp [q0l, h10]
   have pz : (q0l n).size = 0 := by simp [q0l, h10]
   have pi : (q0l n).items = 0 := by simp [q0l, h10]
   have pb : (q0l n).branches = [] := by simp [q0l, h10]
   have hE : (⟨#[]⟩ : ByteArray).toList = [] := q17 []
   refine q0a (And.intro @q0d (And.intro e9 e10)) ?_
   refine VC.loop (ι := {i : Nat // i ≤ n.symbols.length}) (fun q => [(2, .ref 0 1 0 0), (3, .ref 8 1 0 0), (5, .ref 48 1 0 0), (7, .c (.v (.bool true))), (11, .c (.v (.bool ((n.symbols.take q.1).contains n.dflt)))), (12, .c (.v (.int .i64 (q.1 : Int))))])
    (fun q => [(0, ⟨false, 24, 2, [s.cells.map .c]⟩), (8, ⟨false, 33, 10, [n.cells.map .c]⟩), (48, ⟨false, 33, 10, [(q0l n).cells.map .c]⟩)]) 5000 (fun q => n.symbols.length - q.1) ⟨0, Nat.zero_le _⟩ ?_ ?_
   · refine q1j (And.intro @q0d (And.intro @q0i (And.intro o1 (And.intro o2 (And.intro pk (And.intro pf (And.intro ps (And.intro ph (And.intro pd (And.intro pz (And.intro pi pb))))))))))) ?_
     simp
   rintro ⟨i, hi⟩
   simp only []
   refine q0c (And.intro @q0d @q0i) ?_
   refine VC.cond (by rfl) (by trivial) (fun hc => ?_) (fun hc => ?_)
   · have hlt : i < n.symbols.length := by simp at hc; omega
     obtain ⟨x, hx⟩ : ∃ x, n.symbols[i]? = some x := ⟨n.symbols[i], List.getElem?_eq_getElem hlt⟩
     have hw : IntKind.i64.wrap ((i : Int) + 1) = (i : Int) + 1 := q0f (by omega) (by omega)
     have hxp : (n.symbols.map sPV)[i]? = some (sPV x) := by rw [List.getElem?_map, hx]; rfl
     have hnx : (n.symbols.take (i + 1)).contains n.dflt = ((n.symbols.take i).contains n.dflt || (x == n.dflt)) := by
      rw [List.take_add_one, hx, Bool.eq_iff_iff]
      simp
      exact ⟨fun h => h.imp id Eq.symm, fun h => h.imp id Eq.symm⟩
     obtain ⟨b0, hb0⟩ : ∃ b, b = (n.symbols.take i).contains n.dflt := ⟨_, rfl⟩
     rw [← hb0] at hnx ⊢
     clear hb0
     replace hnx := Lib.hid hnx
     refine q0c (And.intro @q0d (And.intro @q0i (And.intro hxp (And.intro @q4c (And.intro @q17 hw))))) ?_
     refine .next ⟨i + 1, by omega⟩ ?_ (by simp only []; omega)
     refine q1j (And.intro @q0d (And.intro @q0i hnx.out)) ?_
     exact cI (by omega)
   · have hie : i = n.symbols.length := by simp at hc; omega
     rw [show n.symbols.take i = n.symbols by rw [hie, List.take_length]]
     have hA := j6n n.symbols (by omega) fun x hx => by have := hs2 x hx; omega
     have hO := j6j n.symbols (by omega)
     have hF : ((((n.has == n.symbols.contains n.dflt) && (n.has || n.dflt.isEmpty)) && (decide (1 ≤ n.symbols.length) && (decide (n.symbols.length ≤ 40) && q3k q11 n.symbols)))) =
       (((decide ((n.symbols.length : Int) > 0) && allM q11 n.symbols) && decide n.symbols.Nodup) && ((n.has && n.symbols.contains n.dflt) || (!n.has && (n.dflt == [])))) := by
      have e1 : decide ((n.symbols.length : Int) > 0) = decide (1 ≤ n.symbols.length) := decide_eq_decide.2 (by omega)
      have e2 : n.dflt.isEmpty = (n.dflt == []) := by cases n.dflt <;> rfl
      have e3 : n.symbols.all q11 = true → (n.dflt == []) = true → n.symbols.contains n.dflt = false := fun ha hd => by
       rw [Bool.eq_false_iff]
       intro hm
       have h1 := List.all_eq_true.1 ha n.dflt (by simpa using hm)
       have h2 : n.dflt = [] := by simpa using hd
       rw [h2] at h1
       exact absurd h1 (by decide)
      rw [e1, e2, q3k, allM]
      generalize decide (1 ≤ n.symbols.length) = x1
      generalize decide (n.symbols.length ≤ 40) = x2
      generalize decide n.symbols.Nodup = x3
      generalize n.symbols.all q11 = x4 at e3 ⊢
      generalize (n.dflt == []) = x5 at e3 ⊢
      generalize n.symbols.contains n.dflt = x6 at e3 ⊢
      cases x1 <;> cases x2 <;> cases x3 <;> cases x4 <;> cases x5 <;> cases x6 <;> cases n.has <;> simp at e3 ⊢
     obtain ⟨b0, hb0⟩ : ∃ b, b = n.symbols.contains n.dflt := ⟨_, rfl⟩
     obtain ⟨b1, hb1⟩ : ∃ b, b = allM q11 n.symbols := ⟨_, rfl⟩
     obtain ⟨b2, hb2⟩ : ∃ b, b = decide n.symbols.Nodup := ⟨_, rfl⟩
     rw [hF, ← hb0, ← hb1, ← hb2] at hV10
     rw [← hb0]
     rw [← hb1] at hA
     rw [← hb2] at hO
     clear hb0 hb1 hb2 hF
     cases hnh : n.has with
     | true =>
       rw [hnh] at hV10
       replace hV10 := Lib.hid hV10
       refine q0c (And.intro @q0d @q0i) ?_
       refine q2m (hA) ?_
       refine q0c (And.intro @q0d @q0i) ?_
       refine q2m (hO) ?_
       refine q0c (And.intro @q0d (And.intro @q0i (And.intro @q17 (And.intro hE hnh)))) ?_
       refine .normal ⟨_, hV10.out⟩ ?_
       exact q2f (And.intro @q0d @q0i)
     | false =>
       rw [hnh] at hV10
       replace hV10 := Lib.hid hV10
       refine q0c (And.intro @q0d @q0i) ?_
       refine q2m (hA) ?_
       refine q0c (And.intro @q0d @q0i) ?_
       refine q2m (hO) ?_
       refine q0c (And.intro @q0d (And.intro @q0i (And.intro @q17 (And.intro hE hnh)))) ?_
       refine .normal ⟨_, hV10.out⟩ ?_
       exact q2f (And.intro @q0d @q0i)
 by_cases h1112 : n.kind = 11 ∨ n.kind = 12
 · have hV11 : V = (true && bB) := by
    rw [hV, if_neg h9, if_neg h10, if_neg (by omega), if_neg (by omega)]
    have o1 : decide (1 ≤ n.kind) = true := by simp; omega
    have o2 : decide (n.kind ≤ 14) = true := by simp; omega
    rw [o1, o2]
    simp
   have e9 : (n.kind == 9) = false := by simpa using h9
   have e10 : (n.kind == 10) = false := by simpa using h10
   have o1 : decide (n.kind ≥ 1) = true := by simp; omega
   have o2 : decide (n.kind ≤ 14) = true := by simp; omega
   clear hV
   have hz : n.kind ≠ 13 ∧ n.kind ≠ 14 := by omega
   have pk : (q0l n).kind = n.kind := rfl
   have pf : (q0l n).fields = [] := by simp [q0l, h9, h10, h1112, hz.1, hz.2]
   have ps : (q0l n).symbols = [] := by simp [q0l, h9, h10, h1112, hz.1, hz.2]
   have ph : (q0l n).has = false := by simp [q0l, h9, h10, h1112, hz.1, hz.2]
   have pd : (q0l n).dflt = [] := by simp [q0l, h9, h10, h1112, hz.1, hz.2]
   have pz : (q0l n).size = 0 := by simp [q0l, h9, h10, h1112, hz.1, hz.2]
   have pi : (q0l n).items = n.items := by simp [q0l, h9, h10, h1112, hz.1, hz.2]
   have pb : (q0l n).branches = [] := by simp [q0l, h9, h10, h1112, hz.1, hz.2]
   rcases h1112 with h11 | h11
   · have e11 : (n.kind == 11) = true := by simpa using h11
     refine q0a (And.intro @q0d (And.intro e9 (And.intro e10 e11))) ?_
     refine .normal ⟨true, hV11⟩ ?_
     exact q2f (And.intro @q0d (And.intro @q0i (And.intro o1 (And.intro o2 (And.intro pk (And.intro pf (And.intro ps (And.intro ph (And.intro pd (And.intro pz (And.intro pi pb)))))))))))
   · have e11 : (n.kind == 11) = false := by simp; omega
     have e12 : (n.kind == 12) = true := by simpa using h11
     refine q0a (And.intro @q0d (And.intro e9 (And.intro e10 (And.intro e11 e12)))) ?_
     refine .normal ⟨true, hV11⟩ ?_
     exact q2f (And.intro @q0d (And.intro @q0i (And.intro o1 (And.intro o2 (And.intro pk (And.intro pf (And.intro ps (And.intro ph (And.intro pd (And.intro pz (And.intro pi pb)))))))))))
 have e9 : (n.kind == 9) = false := by simpa using h9
 have e10 : (n.kind == 10) = false := by simpa using h10
 have e11 : (n.kind == 11) = false := by simp; omega
 have e12 : (n.kind == 12) = false := by simp; omega
 by_cases h13 : n.kind = 13
 · have hbr := hbr h13
   have o1 : decide (n.kind ≥ 1) = true := by simp; omega
   have o2 : decide (n.kind ≤ 14) = true := by simp; omega
   have e13 : (n.kind == 13) = true := by simpa using h13
   have hV13 : V = (((decide ((n.branches.length : Int) > 0) && decide ((n.branches.length : Int) ≤ 10)) && q4e s.nodes [] n.branches) && bB) := by
    have x1 : decide ((n.branches.length : Int) > 0) = decide (1 ≤ n.branches.length) := decide_eq_decide.2 (by omega)
    have x2 : decide ((n.branches.length : Int) ≤ 10) = decide (n.branches.length ≤ 10) := decide_eq_decide.2 (by omega)
    rw [hV, if_neg h9, if_neg h10, if_neg (by omega), if_pos h13, h13, j09, x1, x2]
    simp [Bool.and_comm, Bool.and_assoc]
   clear hV
   have pk : (q0l n).kind = n.kind := rfl
   have pf : (q0l n).fields = [] := by simp [q0l, h13]
   have ps : (q0l n).symbols = [] := by simp [q0l, h13]
   have ph : (q0l n).has = false := by simp [q0l, h13]
   have pd : (q0l n).dflt = [] := by simp [q0l, h13]
   have pz : (q0l n).size = 0 := by simp [q0l, h13]
   have pi : (q0l n).items = 0 := by simp [q0l, h13]
   have pb : (q0l n).branches = n.branches := by simp [q0l, h13]
   obtain ⟨L, hL⟩ : ∃ L, L = (decide ((n.branches.length : Int) > 0) && decide ((n.branches.length : Int) ≤ 10)) := ⟨_, rfl⟩
   rw [← hL] at hV13
   refine q0a (And.intro @q0d (And.intro e9 (And.intro e10 (And.intro e11 (And.intro e12 e13))))) ?_
   refine VC.loop (ι := {i : Nat // i ≤ n.branches.length}) (fun q => [(2, .ref 0 1 0 0), (3, .ref 8 1 0 0), (5, .ref 48 1 0 0), (7, .c (.v (.bool (L && q4e s.nodes [] (n.branches.take q.1))))), (13, .c (.v (.int .i64 (q.1 : Int))))])
    (fun q => [(0, ⟨false, 24, 2, [s.cells.map .c]⟩), (8, ⟨false, 33, 10, [n.cells.map .c]⟩), (48, ⟨false, 33, 10, [(q0l n).cells.map .c]⟩)]) 10000 (fun q => n.branches.length - q.1) ⟨0, Nat.zero_le _⟩ ?_ ?_
   · refine q1j (And.intro @q0d (And.intro @q0i (And.intro o1 (And.intro o2 (And.intro hL (And.intro pk (And.intro pf (And.intro ps (And.intro ph (And.intro pd (And.intro pz (And.intro pi pb)))))))))))) ?_
     simp [q4e]
   rintro ⟨i, hi⟩
   simp only []
   refine q0c (And.intro @q0d @q0i) ?_
   refine VC.cond (by rfl) (by trivial) (fun hc => ?_) (fun hc => ?_)
   · have hlt : i < n.branches.length := by simp at hc; omega
     obtain ⟨x, hx⟩ : ∃ x, n.branches[i]? = some x := ⟨n.branches[i], List.getElem?_eq_getElem hlt⟩
     obtain ⟨y0, y1⟩ := hbr x (List.mem_of_getElem? hx)
     obtain ⟨p, rfl⟩ : ∃ p : Nat, x = (p : Int) := ⟨x.toNat, by omega⟩
     obtain ⟨m, hm⟩ : ∃ m, s.nodes[p]? = some m := ⟨s.nodes[p]'(by omega), List.getElem?_eq_getElem (by omega)⟩
     have hmp : (s.nodes.map NT.cells)[p]? = some m.cells := by rw [List.getElem?_map, hm]; rfl
     have hw : IntKind.i64.wrap ((i : Int) + 1) = (i : Int) + 1 := q0f (by omega) (by omega)
     have hxp : (n.branches.map iPV)[i]? = some (iPV (p : Int)) := by rw [List.getElem?_map, hx]; rfl
     have hnx : q4e s.nodes [] (n.branches.take (i + 1)) = (q4e s.nodes [] (n.branches.take i) && j12 s.nodes (n.branches.take i) (p : Int)) := by
      rw [List.take_add_one, hx, Option.toList_some, j77, List.nil_append]
     rw [j12, Int.toNat_natCast, j3t hm] at hnx
     obtain ⟨b0, hb0⟩ : ∃ b, b = q4e s.nodes [] (n.branches.take i) := ⟨_, rfl⟩
     rw [← hb0] at hnx ⊢
     clear hb0
     replace hnx := Lib.hid hnx
     have hNm := j36 m.kind
     obtain ⟨bn, hbn⟩ : ∃ b, b = q1h m.kind := ⟨_, rfl⟩
     rw [← hbn] at hNm
     refine q0c (And.intro @q0d (And.intro @q0i (And.intro hxp (And.intro @q3b hmp)))) ?_
     refine VC.loop (ι := {k : Nat // k ≤ i}) (fun q => [(2, .ref 0 1 0 0), (3, .ref 8 1 0 0), (5, .ref 48 1 0 0), (7, .c (.v (.bool (((L && b0) && (m.kind != 13)) && !(n.branches.take q.1).any fun z => z == (p : Int) || (!bn && q3c s.nodes z.toNat == m.kind))))), (13, .c (.v (.int .i64 (i : Int)))), (14, .ref 10112 1 0 0), (15, .c (.v (.int .i64 (q.1 : Int))))])
      (fun q => [(0, ⟨false, 24, 2, [s.cells.map .c]⟩), (8, ⟨false, 33, 10, [n.cells.map .c]⟩), (48, ⟨false, 33, 10, [(q0l n).cells.map .c]⟩), (10112, ⟨false, 33, 10, [m.cells.map .c]⟩)]) 20000 (fun q => i - q.1) ⟨0, Nat.zero_le _⟩ ?_ ?_
     · refine q1j (And.intro @q0d @q0i) ?_
       simp
     rintro ⟨k, hk⟩
     simp only []
     refine q0c (And.intro @q0d @q0i) ?_
     refine VC.cond (by rfl) (by trivial) (fun hc2 => ?_) (fun hc2 => ?_)
     · have hki : k < i := by simp at hc2; omega
       obtain ⟨y, hy⟩ : ∃ y, n.branches[k]? = some y := ⟨n.branches[k]'(by omega), List.getElem?_eq_getElem (by omega)⟩
       obtain ⟨z0, z1⟩ := hbr y (List.mem_of_getElem? hy)
       obtain ⟨r, rfl⟩ : ∃ r : Nat, y = (r : Int) := ⟨y.toNat, by omega⟩
       obtain ⟨w, hwn⟩ : ∃ w, s.nodes[r]? = some w := ⟨s.nodes[r]'(by omega), List.getElem?_eq_getElem (by omega)⟩
       have hwp : (s.nodes.map NT.cells)[r]? = some w.cells := by rw [List.getElem?_map, hwn]; rfl
       have hwk : IntKind.i64.wrap ((k : Int) + 1) = (k : Int) + 1 := q0f (by omega) (by omega)
       have hyp : (n.branches.map iPV)[k]? = some (iPV (r : Int)) := by rw [List.getElem?_map, hy]; rfl
       have hnk : (!(n.branches.take (k + 1)).any fun z => z == (p : Int) || (!bn && q3c s.nodes z.toNat == m.kind)) = ((!(n.branches.take k).any fun z => z == (p : Int) || (!bn && q3c s.nodes z.toNat == m.kind)) && (((p : Int) != (r : Int)) && ((m.kind != w.kind) || bn))) := by
        rw [List.take_add_one, hy, List.any_append]
        simp only [Option.toList_some, List.any_cons, List.any_nil, Bool.or_false, Int.toNat_natCast, j3t hwn, Bool.not_or, Bool.not_and, Bool.not_not]
        congr 1
        congr 1
        · rw [bne_comm]; rfl
        · rw [Bool.or_comm, bne_comm]; rfl
       obtain ⟨b1, hb1⟩ : ∃ b, b = !(n.branches.take k).any fun z => z == (p : Int) || (!bn && q3c s.nodes z.toNat == m.kind) := ⟨_, rfl⟩
       rw [← hb1] at hnk ⊢
       clear hb1
       replace hnk := Lib.hid hnk
       refine q0c (And.intro @q0d (And.intro @q0i (And.intro hxp (And.intro hyp (And.intro @q3b (And.intro hmp hwp)))))) ?_
       refine q2m (hNm) ?_
       refine q0c (hwk) ?_
       refine .next ⟨k + 1, by omega⟩ ?_ (by simp only []; omega)
       simp only [q0d, q0i, hnk.out, Bool.and_assoc, Weak, eq_self, q0v, q0p, sc_c, q0r, q0s, q0t, q0o, q0q, ScL, q0u, List.forall_mem_map, go_sem, Int.reduceBEq, Int.reduceLE, Int.reduceLT, Int.reduceNeg, Nat.reduceAdd, Nat.reduceEqDiff, Nat.reduceLT, Nat.reduceLeDiff, Nat.reduceMul, Nat.reduceSub, reduceCtorEq, ↓reduceIte]
       exact cI (by omega)
     · have hke : k = i := by simp at hc2; omega
       subst hke
       refine q0c (hw) ?_
       refine .next ⟨k + 1, by omega⟩ ?_ (by simp only []; omega)
       simp only [q0d, q0i, hnx.out, hbn, Bool.and_assoc, Weak, eq_self, q0v, q0p, sc_c, q0r, q0s, q0t, q0o, q0q, ScL, q0u, List.forall_mem_map, go_sem, Int.reduceBEq, Int.reduceLE, Int.reduceLT, Int.reduceNeg, Nat.reduceAdd, Nat.reduceEqDiff, Nat.reduceLT, Nat.reduceLeDiff, Nat.reduceMul, Nat.reduceSub, reduceCtorEq, ↓reduceIte]
       exact cI (by omega)
   · have hie : i = n.branches.length := by simp at hc; omega
     rw [show n.branches.take i = n.branches by rw [hie, List.take_length]]
     refine q0b ?_
     refine .normal ⟨_, hV13⟩ ?_
     exact q2f (And.intro @q0d @q0i)
 have e13 : (n.kind == 13) = false := by simpa using h13
 by_cases h14 : n.kind = 14
 · have o1 : decide (n.kind ≥ 1) = true := by simp; omega
   have o2 : decide (n.kind ≤ 14) = true := by simp; omega
   have hV14 : V = ((decide (n.size ≥ 0) && decide (n.size ≤ 1000)) && bB) := by
    rw [hV, if_neg h9, if_neg h10, if_pos h14, h14]
    simp [Bool.and_comm]
   clear hV
   have pk : (q0l n).kind = n.kind := rfl
   have pf : (q0l n).fields = [] := by simp [q0l, h14]
   have ps : (q0l n).symbols = [] := by simp [q0l, h14]
   have ph : (q0l n).has = false := by simp [q0l, h14]
   have pd : (q0l n).dflt = [] := by simp [q0l, h14]
   have pz : (q0l n).size = n.size := by simp [q0l, h14]
   have pi : (q0l n).items = 0 := by simp [q0l, h14]
   have pb : (q0l n).branches = [] := by simp [q0l, h14]
   have e14 : (n.kind == 14) = true := by simpa using h14
   refine q0a (And.intro @q0d (And.intro e9 (And.intro e10 (And.intro e11 (And.intro e12 (And.intro e13 e14)))))) ?_
   refine .normal ⟨_, hV14⟩ ?_
   exact q2f (And.intro @q0d (And.intro @q0i (And.intro o1 (And.intro o2 (And.intro pk (And.intro pf (And.intro ps (And.intro ph (And.intro pd (And.intro pz (And.intro pi pb)))))))))))
 · have hV0 : V = ((decide (n.kind ≥ 1) && decide (n.kind ≤ 14)) && bB) := by
    rw [hV, if_neg h9, if_neg h10, if_neg h14, if_neg h13]
    simp [Bool.and_assoc]
   clear hV
   have pk : (q0l n).kind = n.kind := rfl
   have pf : (q0l n).fields = [] := by simp [q0l, h9, h10, h13, h14, h1112]
   have ps : (q0l n).symbols = [] := by simp [q0l, h9, h10, h13, h14, h1112]
   have ph : (q0l n).has = false := by simp [q0l, h9, h10, h13, h14, h1112]
   have pd : (q0l n).dflt = [] := by simp [q0l, h9, h10, h13, h14, h1112]
   have pz : (q0l n).size = 0 := by simp [q0l, h9, h10, h13, h14, h1112]
   have pi : (q0l n).items = 0 := by simp [q0l, h9, h10, h13, h14, h1112]
   have pb : (q0l n).branches = [] := by simp [q0l, h9, h10, h13, h14, h1112]
   have e14 : (n.kind == 14) = false := by simpa using h14
   refine q0a (And.intro @q0d (And.intro e9 (And.intro e10 (And.intro e11 (And.intro e12 (And.intro e13 e14)))))) ?_
   refine .normal ⟨_, hV0⟩ ?_
   exact q2f (And.intro @q0d (And.intro @q0i (And.intro pk (And.intro pf (And.intro ps (And.intro ph (And.intro pd (And.intro pz (And.intro pi pb)))))))))
end
end Go.Proofs.YtepneflbhpidbaaGreatDoor
