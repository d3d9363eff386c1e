/- Texts that lead to the law BuildRight, joined. -/
import Derived.Test.YthkofkaocipomaaGreatDoorPkBuildRightB
import Derived.Test.YthkofkaocipomaaGreatDoorPkBuildRightA
import Derived.Test.YthkofkaocipomaaGreatDoorPkBuildRightXAbB
namespace Go.Proofs.YthkofkaocipomaaGreatDoor
set_option maxRecDepth 100000
set_option maxHeartbeats 6400000
open Go.RowKit
set_option linter.unusedVariables false
set_option linter.unusedSimpArgs false

def wrK (ρ : Nat → Nat) : Nat → List Bool → List (Option Blkd) → List (Nat × Option Blkd)
 | i, true :: m, _ :: l => wrK ρ (i + 1) m l
 | i, false :: m, b :: l => (ρ i, b.map (Blkd.ren ρ)) :: wrK ρ (i + 1) m l
 | i, [], l => wrM ρ i l
 | _, _, [] => []
def q6e : List Bool → List Blkd → List (Option Blkd) → Prop
 | [], _, _ => True
 | true :: m, B :: L, b :: L' => b = some B ∧ q6e m L L'
 | false :: m, _ :: L, _ :: L' => q6e m L L'
 | _ :: _, _, _ => False
theorem upd_idK {α : Type} {f : Nat → α} {k : Nat} {x : α} (h : f k = x) : upd f k x = f := by
 funext m
 unfold upd
 split
 · rename_i hm; rw [hm, h]
 · rfl
theorem wrK_is {ρ : Nat → Nat} : ∀ (m : List Bool) (L : List Blkd) (L' : List (Option Blkd)) (ks : List Nat) (i : Nat) (h : Nat → Option Blkd), q6e m L L' → q2s h ρ ks L → ks.Nodup → (∀ p k, ks[p]? = some k → ρ (i + p) = k) → wrs (wrK ρ i m L') h = wrs (wrM ρ i L') h
 | [], _, L', _, i, h, _, _, _, _ => by cases L' <;> rfl
 | _ :: _, [], _, _, _, _, hs, _, _, _ => by simp [q6e] at hs
 | _ :: _, _ :: _, [], _, _, _, hs, _, _, _ => by simp [q6e] at hs
 | _ :: _, _ :: _, _ :: _, [], _, _, _, hl, _, _ => by simp [q2s] at hl
 | b :: m, B :: L, c :: L', k :: ks, i, h, hs, hl, hn, hp => by
   have h0 : ρ i = k := hp 0 k rfl
   have hp' : ∀ p k', ks[p]? = some k' → ρ (i + 1 + p) = k' := fun p k' hk => by
    have := hp (p + 1) k' (by simpa using hk)
    rwa [show i + (p + 1) = i + 1 + p from by omega] at this
   obtain ⟨hn1, hn2⟩ := List.nodup_cons.1 hn
   have hl2 : ∀ x, q2s (upd h k x) ρ ks L := fun x => j2e ks L (fun j hj => q1r _ _ fun e => hn1 (e ▸ hj)) hl.2
   cases b with
   | true =>
     obtain ⟨rfl, hs⟩ := hs
     show wrs (wrK ρ (i + 1) m L') h = wrs ((ρ i, some (B.ren ρ)) :: wrM ρ (i + 1) L') h
     rw [q6k, h0, upd_idK hl.1]
     exact wrK_is m L L' ks (i + 1) h hs hl.2 hn2 hp'
   | false =>
     show wrs ((ρ i, c.map (Blkd.ren ρ)) :: wrK ρ (i + 1) m L') h = wrs ((ρ i, c.map (Blkd.ren ρ)) :: wrM ρ (i + 1) L') h
     rw [q6k, q6k, h0]
     exact wrK_is m L L' ks (i + 1) _ hs (hl2 _) hn2 hp'
theorem j4e {P : Program} {o : Oper} {ℓ : Nat} {t : Nat → AV} {h : Nat → Option Blkd} (c : Operand) (f : FuncId) (fs cs args : List AV) (xs : Array Operand) (tys : Array TypeId) (y : AV) (ks : List Nat) (L : List Blkd) (L' : List (Option Blkd)) (m : List Bool) (ho : o.op = .call { callee := .value c, args := xs, argTypes := tys }) (hc : okx t c) (ec : ev t c = .fn (.func f) fs cs)
  (hx : ∀ x ∈ xs, okx t x) (hL : q2s h (rho ks ℓ) ks L) (hnd : ks.Nodup) (hn8 : L'.length ≤ L.length + 8) (ha : fs ++ xs.toList.map (ev t) ++ cs = AV.renL (rho ks ℓ) args) (hs : q6e m L L') (hT : ToldM P f args L L' y) :
  J P o ℓ t h ⟨y.ren (rho ks ℓ), ks, wrK (rho ks ℓ) 1000000 m L'⟩ := by
 intro C used N t1 h1 ro φ a W ht hh hu hd r K Q hK
 refine J_callM c f fs cs args xs tys y ks L L' ho hc ec hx hL hnd hn8 ha hT C used N t1 h1 ro φ a W ht hh hu hd r K Q fun a' W' ro' φ' r' => hK a' W' ro' φ' ?_
 show Rel C _ N _ (wrs (wrK (rho ks ℓ) 1000000 m L') h1) ro' φ' a' W'
 rw [wrK_is m L L' ks 1000000 h1 hs (j2e ks L (fun k hk => hh k hk) hL) hnd fun p k hk => j2j hk]
 exact r'
section
attribute [local go_sem] opx opE ev okx q46 bnd okO AV.get AV.okb cAV q7s q82 q81 j12 q6k q8u q8t st q7w q5v q7y q7z q7x binV binI binS q4g q5c q47 q5d unV q5o q31 q3e q0y q10 Blkd.len setE grown q1j q4m q3g q2z pv q4t q3o q4d AV.cellish AV.pureL AV.pureB q8s q8f AV.ren AV.renL q84 Blkd.ren rho wrM renN q2s rhoE q4b q4h q7o q7r j1c j1f j1j j1o j1r q63 q9b q9g q9h q9m q9q q9s q9t q9u q9z q94 q99 q7p q7q j0f q62 j0k j0l j0n j0o j09 j1a j1b j1d j1e j1g j1h j1i j1k j1l j1m j1n j1p j1q j1s j1t j1u j1v j1w q9c q9d q9e q9f q9i q9j q9k q9l q9n q9o q9p q9r q9v q9w q9x q9y q90 q91 q92 q93 q95 q96 q97 q98 j0a j0b j0c j0d j0e j0g j0h j0i j0j j0m j0p j0q j0r j0s j0t j0u j0v j0w j0x j0y j0z j00 j01 j02 j03 j04 j05 j06 j07 j08 Option.map_some Option.map_none Option.getD_some Option.getD_none Option.bind_some Option.bind_none List.getElem?_cons_zero List.getElem?_cons_succ List.getElem?_nil List.getElem?_toArray List.length_cons List.length_nil List.length_map List.forall_mem_map List.map_cons List.map_nil List.drop_zero List.drop_succ_cons List.drop_nil List.take_zero List.take_succ_cons List.take_nil List.mem_cons List.not_mem_nil or_false forall_eq_or_imp forall_eq List.set_cons_zero List.set_cons_succ List.cons_append List.nil_append List.append_nil List.foldl_cons List.foldl_nil List.replicate_succ List.replicate_zero List.all_cons List.all_nil if_true if_false Bool.false_eq_true ne_eq not_false_eq_true not_true_eq_false true_and and_true and_self true_implies imp_self implies_true forall_const beq_self_eq_true Bool.and_true Bool.true_and Bool.and_false Bool.false_and Bool.or_true Bool.true_or Bool.or_false Bool.false_or Bool.not_true Bool.not_false Bool.not_eq_eq_eq_not q50 Value.oneCell' Int.toNat_natCast beq_true beq_false Bool.not_eq_true false_implies false_or true_or or_true Nat.zero_add Nat.add_zero decide_true decide_false Int.cast_ofNat_Int Int.toNat_zero Int.toNat_one eq_self

def q2a (j : JT) (a : List UInt8) : Option (List UInt8) := q1q (if (jget j q1t).isSome = true then (gt j q1t).txt else a) (gt j q05).txt
def q36 (j : JT) (k : Int) (a : List UInt8) : NT := ⟨k, (q2a j a).getD [], q40 j fun s => (q1q (q2f ((q2a j a).getD [])) s).getD [], [], [], false, [], 0, 0, []⟩
def q6a (j : JT) : Int := if (jget j q1t).isSome = true then fl (fl 0 ((gt j q05).kd != 4) 30) ((gt j q1t).kd != 4) 30 else fl 0 ((gt j q05).kd != 4) 30
def q6p (hs : List HN) (j : JT) (a : List UInt8) : Int := fl (fl (q6a j) (!(q2a j a).isSome || (q0p ((q2a j a).getD []) : Int) != 0) 31) (decide (0 ≤ q1v hs ((q2a j a).getD []))) 32
def q35 (hs : List HN) (j : JT) (a : List UInt8) : Int := q3t (q6p hs j a) j fun s => (q1q (q2f ((q2a j a).getD [])) s).isSome

theorem fresh_no {es : List EN} (hl : es.length ≤ 200) {e : Int} (he : e ≠ 0) (n : NT) : ToldM Tryz.prog 117 [.ref 1000000 1 0 0, (EN.of n).av] [xW es.length e, xN es] [some (xW es.length e), some (xN es)] (.c (.v (.int .i64 0))) := by
 have h := j2w es hl e n
 have hv : q16 (hsE es) e n = ([], 0, e) := by
  unfold q16
  simp only [q1p _ _ _ he]
  simp [he]
 rw [hv] at h
 simpa using h
theorem j8o {es : List EN} (hl : es.length ≤ 200) {e : Int} (he : e ≠ 0) (k : Int) : ToldM Tryz.prog 117 [.ref 1000000 1 0 0, .agg [.c (.v (.int .i64 k)), .c (.v (.string ⟨#[]⟩)), .c (.v (.slice none 0 0)), .c (.v (.slice none 0 0)), .c (.v (.slice none 0 0)), .c (.v (.bool false)), .c (.v (.string ⟨#[]⟩)), .c (.v (.int .i64 0)), .c (.v (.int .i64 0)), .c (.v (.slice none 0 0))]] [xW es.length e, xN es] [some (xW es.length e), some (xN es)] (.c (.v (.int .i64 0))) :=
 (fresh_no hl he (q1d k)).co (.cons (.same _) (.cons (j7r k) .nil))
theorem zJ_av : zJ.av = .agg ([PV.v (.int .i64 0), .v (.int .i64 0), .v (.string (str [])), .sl 5 [], .sl 1 []].map .c) := by rw [JT.av_eq, q03]; rfl
theorem bmany_no (es : List EN) (hl : es.length ≤ 200) (e : Int) (j : JT) (k : Int) (key a : List UInt8) (hno : jget j key = none) : ToldM Tryz.prog 122 [.ref 1000000 1 0 0, j.av, .c (.v (.int .i64 k)), .c (.v (.string (str key))), .c (.v (.string (str a)))] [xW es.length e, xN es]
  [some (xW es.length (fl e true 30)), some (xN es)] (.c (.v (.int .i64 0))) := by
 have hG := q4j j key
 rw [hno] at hG
 have hF1 := q15 es es.length rfl e 30 true
 have h0 : fl e true 30 ≠ 0 := by
  unfold fl
  split
  · assumption
  · decide
 generalize fl e true 30 = e1 at *
 have hFr := j8o hl h0 k
 have hq : (e1 == 0) = false := by simpa using h0
 simp only [Option.getD_none, Option.isSome_none] at hG
 rw [zJ_av] at hG
 rw [JT.av_eq, q03] at hG ⊢
 generalize j.kd = j1 at *
 generalize j.num = j2 at *
 generalize j.txt = j3 at *
 generalize j.its = j4 at *
 generalize j.keys = j5 at *
 unfold xW xN at hF1 hFr ⊢
 refine VC.toldXF (And.intro @q0a @q0i) j4u [] Tryz.func122 rfl Tryz.ntmps122 fun hb hbL => ?_
 clear hb hbL
 refine q0c ?_
 refine q0h (hG) ?_
 refine q0c ?_
 refine q0n (And.intro @q0a @q0b) [1000000, 1000001] (hF1) ?_
 refine q0d (And.intro @q0a @q0b) ?_
 refine q0n (And.intro @q0a @q0b) [1000000, 1000001] (hFr) ?_
 refine q06 (And.intro @q0a (And.intro @q0b hq)) ?_
 refine q09 (@q0b) Tryz.results122 ?_
 exact .c _

def q1c (f : FuncId) (es : List EN) (e : Int) (args : List AV) (V : List NT × Int × Int) : Prop :=
 ToldM Tryz.prog f (.ref 1000000 1 0 0 :: args) [xW es.length e, xN es] [some (xW (es ++ V.1.map EN.of).length V.2.2), some (xN (es ++ V.1.map EN.of))] (.c (.v (.int .i64 V.2.1)))
def strV (s : List UInt8) : AV := .c (.v (.string (str s)))
def intV (k : Int) : AV := .c (.v (.int .i64 k))
theorem z2v (es : List EN) (hl : es.length ≤ 200) (j : JT) (a : List UInt8) (hty : ((gt j q0o).kd != 4) = true) : q1c 72 es 0 [j.av, strV a] ([], 0, 30) := by
 unfold q1c strV
 have hT := q70 es es.length rfl 0 j q0o
 rw [hty, show fl 0 true 30 = 30 from rfl] at hT
 simp only [List.map_nil, List.append_nil]
 generalize (gt j q0o).txt = w at *
 clear hty
 rw [JT.av_eq, q03] at hT ⊢
 generalize j.kd = j1 at *
 generalize j.num = j2 at *
 generalize j.txt = j3 at *
 generalize j.its = j4 at *
 generalize j.keys = j5 at *
 rw [q0o, q33 [116, 121, 112, 101]] at hT
 unfold xW xN at hT ⊢
 refine VC.toldXF (And.intro @q0a @q0i) q67 [] Tryz.func72 rfl Tryz.ntmps72 fun hb hbL => ?_
 clear hb hbL
 refine q0c ?_
 refine q0n (And.intro @q0a @q0b) [1000000, 1000001] (hT) ?_
 refine q06 (And.intro @q0a @q0b) ?_
 refine q09 (@q0b) Tryz.results72 ?_
 exact .c _
/-- An object whose type is a text. -/

def xI (k : Int) : Blkd := ⟨false, 3, 1, [[.c (.v (.int .i64 k))]]⟩
def xB : Blkd := ⟨false, 58, 1, [[.ref 1000003 1 0 0]]⟩
def xW4 (n : Nat) (e : Int) : Blkd := ⟨false, 60, 3, [[.row 1000004 n, .c (.v (.int .i64 0)), .c (.v (.int .i64 e))]]⟩
def xL (l : List Int) : Blkd := ⟨true, 3, 1, rA iPV l⟩
def q52 (hs : List HN) (k kd : Int) (o : Int) : Bool := o == k || (!q00 kd && q2v hs o.toNat == kd)
theorem like_told (es : List EN) (e k kd o : Int) (h0 : 0 ≤ o) (h1 : o < (es.length : Int)) : ToldM Tryz.prog 165 [.c (.v (.int .i64 o)), .ref 1000000 1 0 0, .ref 1000001 1 0 0, .ref 1000002 1 0 0] [xI k, xI kd, xB, xW4 es.length e, xN es]
  [some (xI k), some (xI kd), some xB, some (xW4 es.length e), some (xN es)] (.c (.v (.bool (q52 (hsE es) k kd o)))) := by
 have hNm := q7g kd
 obtain ⟨m, hm⟩ : ∃ m, es[o.toNat]? = some m := ⟨es[o.toNat]'(by omega), List.getElem?_eq_getElem _⟩
 have hat : (rA EN.cells es)[o.toNat]? = some (m.cells.map .c) := q6z hm
 have hkh : q2v (hsE es) o.toNat = m.n.kind := by
  unfold q2v hsE
  rw [List.getElem?_map, hm]
  rfl
 unfold q52
 rw [hkh]
 have hd0 : decide (0 ≤ o) = true := by simpa using h0
 have hd1 : decide (o < (es.length : Int)) = true := by simpa using h1
 unfold xI xB xW4 xN
 cases hq : o == k with
 | true =>
   rw [Bool.true_or]
   refine VC.toldXF (And.intro @q0a @q0i) j4v [] Tryz.func165 rfl Tryz.ntmps165 fun hb hbL => ?_
   clear hb hbL
   refine q0d (hq) ?_
   refine q09 (@q0b) Tryz.results165 ?_
   exact .c _
 | false =>
   rw [Bool.false_or]
   cases hn : q00 kd with
   | true =>
     rw [hn] at hNm
     refine VC.toldXF (And.intro @q0a @q0i) j4v [] Tryz.func165 rfl Tryz.ntmps165 fun hb hbL => ?_
     clear hb hbL
     refine q0d (hq) ?_
     refine q0h (hNm) ?_
     refine q0c ?_
     refine q09 (@q0b) Tryz.results165 ?_
     exact .c _
   | false =>
     rw [hn] at hNm
     rw [q43] at hat
     generalize m.n.kind = mk at *
     refine VC.toldXF (And.intro @q0a @q0i) j4v [] Tryz.func165 rfl Tryz.ntmps165 fun hb hbL => ?_
     clear hb hbL
     refine q0d (hq) ?_
     refine q0h (hNm) ?_
     (repeat (first | refine pass ?_ | refine VC.region (by rfl) (by rfl) ?_ | (refine AO.step fun K hK => ?_; simp only [hat, q0a, h0, h1, go_sem, Int.reduceBEq, Int.reduceLE, Int.reduceLT, Int.reduceNeg, Nat.reduceAdd, Nat.reduceEqDiff, Nat.reduceLT, Nat.reduceLeDiff, Nat.reduceMul, Nat.reduceSub, reduceCtorEq, ↓reduceIte]; (first | refine q07 ?_ | refine q0g ?_ | skip); (first | refine hK _ _ _ ?_ | refine ⟨by first | omega | exact ⟨_, rfl, rfl⟩ | exact fun _ => ⟨_, rfl, rfl⟩ | (intro h; simp only [hat, q0a, h0, h1, h, true_and]; omega) | (clear hK; intro h; simp_all <;> omega), hK _ _ _ ?_⟩); clear hK K) | refine VC.draw mixP (by rfl) (by rfl) ?_ | refine ⟨q08 (by kernel_rfl), ?_⟩ | refine BQ.other (by decide) ?_ | refine VC.seq ?_ | refine AO.nil ?_ | refine VC.block ?_))
     refine q09 (@q0b) Tryz.results165 ?_
     exact .c _
section
section
variable {P : Program} {N : Nat} {Q : Exit → ASt → Prop}
theorem j8i {r y : AV} : ∀ (l : List (List AV)) (i : Nat) (e e' : List AV), l[i]? = some e → e'.length = e.length → (∀ (q : Nat) (x : AV), e'[q]? = some x → e[q]? = some x ∨ (x = r ∧ e[q]? = some y)) →
  ∀ (k : Nat) (x : AV), (l.set i e').flatten[k]? = some x → l.flatten[k]? = some x ∨ (x = r ∧ l.flatten[k]? = some y)
 | [], i, e, e', h, _, _, k, x, _ => by simp at h
 | a :: l, 0, e, e', h, hl, hq, k, x, hx => by
   obtain rfl := Option.some.inj h
   rw [List.set_cons_zero, List.flatten_cons] at hx
   rw [List.flatten_cons]
   by_cases hk : k < e'.length
   · rw [List.getElem?_append_left hk] at hx
     rw [List.getElem?_append_left (by omega)]
     exact hq k x hx
   · rw [List.getElem?_append_right (by omega)] at hx
     rw [List.getElem?_append_right (by omega), ← hl]
     exact .inl hx
 | a :: l, i + 1, e, e', h, hl, hq, k, x, hx => by
   rw [List.set_cons_succ, List.flatten_cons] at hx
   rw [List.flatten_cons]
   by_cases hk : k < a.length
   · rw [List.getElem?_append_left hk] at hx ⊢
     exact .inl hx
   · rw [List.getElem?_append_right (by omega)] at hx ⊢
     exact j8i l i e e' (by simpa using h) hl hq _ x hx
theorem j8j : ∀ (l : List (List AV)) (i : Nat) (e e' : List AV), l[i]? = some e → e'.length = e.length → (l.set i e').flatten.length = l.flatten.length
 | [], i, e, e', h, _ => by simp at h
 | a :: l, 0, e, e', h, hl => by
   obtain rfl := Option.some.inj h
   rw [List.set_cons_zero, List.flatten_cons, List.flatten_cons, List.length_append, List.length_append, hl]
 | a :: l, i + 1, e, e', h, hl => by
   rw [List.set_cons_succ, List.flatten_cons, List.flatten_cons, List.length_append, List.length_append, j8j l i e e' (by simpa using h) hl]
theorem VC.nilR {c : Code} {t : Nat → AV} {h : Nat → Option Blkd} {n : Nat} (j i o : Nat) (T : TypeId) (z : Nat) (B : Blkd) (e : List AV) (hB : h j = some B) (he : B.elems[i]? = some e) (ho : e[o]? = some (.c (.v (.slice none 0 0)))) (hn : Nat.ble (n + 1) L0 = true)
  (hv : VC P N c ⟨t, upd (upd h n (some ⟨true, T, z, []⟩)) j (some ⟨B.row, B.T, B.z, B.elems.set i (e.set o (.row n 0))⟩), n + 8⟩ Q) : VC P N c ⟨t, h, n⟩ Q := ⟨fun C a W r => by
 obtain ⟨ro, φ, r⟩ := r
 have hn := Nat.le_of_ble_eq_true hn
 have hnu : ¬ Used n n := fun hu => by unfold Used at hu; omega
 have hjn : j ≠ n := fun e => hnu (e ▸ (r.scH j B hB).1)
 have r2 : Rel C (fun j => Used n j ∨ j = n) N t (upd h n (some ⟨true, T, z, []⟩)) ro (upd φ n (.slice none 0 0)) a W :=
  r.block (W' := W) (Keeps.refl _ _) (fun b hb => by simp [q0m] at hb) (.inr hnu)
   ⟨fun i e he => by simp at he, fun e he => by simp at he, [], ⟨rfl, fun j x v hx => by simp at hx⟩, by rw [if_pos rfl, q1a]; exact World.ownsRow_nil W 0 T z⟩ (fun e he => by simp at he)
 have r3 := r2.take (used' := Used (n + 8)) fun j hj => by
  unfold Used at hj ⊢
  omega
 have hB3 : upd h n (some ⟨true, T, z, []⟩) j = some B := by rw [q1r _ _ hjn]; exact hB
 obtain ⟨b1, b2, vs, b3, b4⟩ := r3.hp j B hB3
 have hsl : (e.set o (AV.row n 0)).length = e.length := List.length_set
 have hmem : e ∈ B.elems := List.mem_of_getElem? he
 have hol := (List.getElem?_eq_some_iff.1 ho).1
 have hg : ∀ k B', Used (n + 8) k → upd (upd h n (some ⟨true, T, z, []⟩)) j (some ⟨B.row, B.T, B.z, B.elems.set i (e.set o (.row n 0))⟩) k = some B' → ∃ B0, upd h n (some ⟨true, T, z, []⟩) k = some B0 ∧ (B0.len < B'.len ∨ (B0.len = B'.len ∧ B0.z = B'.z ∧ upd (upd φ n (.slice none 0 0)) j (upd φ n (.slice none 0 0) j) k = upd φ n (.slice none 0 0) k)) := by
  intro k B' hk hB'
  by_cases hkj : k = j
  · subst hkj
    rw [q1a] at hB'
    obtain rfl := Option.some.inj hB'
    exact ⟨B, hB3, .inr ⟨by unfold Blkd.len; rw [List.length_set], rfl, by rw [q1a]⟩⟩
  · rw [q1r _ _ hkj] at hB'
    exact ⟨B', hB', .inr ⟨rfl, rfl, q1r _ _ hkj⟩⟩
 have hnew : ∀ (i : Nat) (x : AV), (e.set o (.row n 0))[i]? = some x → e[i]? = some x ∨ (x = .row n 0 ∧ e[i]? = some (.c (.v (.slice none 0 0)))) := by
  intro i x hx
  by_cases hio : i = o
  · subst hio
    rw [List.getElem?_set_self hol] at hx
    exact .inr ⟨(Option.some.inj hx).symm, ho⟩
  · rw [List.getElem?_set_ne (fun e => hio e.symm)] at hx
    exact .inl hx
 have hsetm : ∀ e' ∈ B.elems.set i (e.set o (.row n 0)), e' ∈ B.elems ∨ e' = e.set o (.row n 0) := fun e' he' => List.mem_or_eq_of_mem_set he'
 have hrow0 : ∀ v : Value, v = .slice none 0 0 → Rep W ro (upd (upd φ n (.slice none 0 0)) j (upd φ n (.slice none 0 0) j)) (upd (upd h n (some ⟨true, T, z, []⟩)) j (some ⟨B.row, B.T, B.z, B.elems.set i (e.set o (.row n 0))⟩)) (.row n 0) v := by
  rintro v rfl
  refine .row rfl fun B' hB' _ => ?_
  rw [q1r _ _ (fun e => hjn e.symm), q1a]
 have hscn : Sc (fun k => Used (n + 8) k ∨ k = j) (upd (upd h n (some ⟨true, T, z, []⟩)) j (some ⟨B.row, B.T, B.z, B.elems.set i (e.set o (.row n 0))⟩)) (.row n 0) := by
  refine .row (.inl (by unfold Used; omega)) fun B' hB' => Nat.zero_le _
 have r4 := r3.block (W' := W) (ℓ := j) (B := ⟨B.row, B.T, B.z, B.elems.set i (e.set o (.row n 0))⟩) (v := upd φ n (.slice none 0 0) j) (Keeps.refl _ _) (fun b hb => .inr ⟨B, hB3, hb⟩)
  (.inl ⟨B, hB3, .inr ⟨by unfold Blkd.len; rw [List.length_set], rfl, rfl⟩⟩)
  ⟨fun q e' he' => by
    rcases hsetm e' (List.mem_of_getElem? he') with h5 | rfl
    · obtain ⟨q', hq', hqe⟩ := List.getElem_of_mem h5
      exact b1 q' e' (by rw [List.getElem?_eq_getElem hq', hqe])
    · rw [hsl]; exact b1 i e he,
   fun e' he' x hx => by
    rcases hsetm e' he' with h5 | rfl
    · exact b2 e' h5 x hx
    · obtain ⟨q, hq, hxi⟩ := List.getElem_of_mem hx
      rcases hnew q x (by rw [List.getElem?_eq_getElem hq, hxi]) with h5 | ⟨rfl, _⟩
      · exact b2 e hmem x (List.mem_of_getElem? h5)
      · rfl,
   vs, by
    refine ⟨by rw [b3.1]; exact (j8j _ _ _ _ he hsl).symm, fun q x v hx hvv => ?_⟩
    rcases j8i _ _ _ _ he hsl hnew q x hx with h5 | ⟨rfl, h5⟩
    · obtain ⟨e0, he0, hx0⟩ := List.mem_flatten.1 (List.mem_of_getElem? h5)
      exact (b3.2 q x v h5 hvv).map ((r3.scH j B hB3).2 e0 he0 x hx0) (fun _ _ => rfl) (fun _ h => h) hg
    · exact hrow0 v (q1u (b3.2 q _ v h5 hvv)), by
    have hbl : (⟨B.row, B.T, B.z, B.elems.set i (e.set o (.row n 0))⟩ : Blkd).len = B.len := by unfold Blkd.len; rw [List.length_set]
    rw [q1a]
    simp only [hbl] at b4 ⊢
    exact b4⟩
  (fun e' he' x hx => by
   have hmp : ∀ x, (∃ e0, e0 ∈ B.elems ∧ x ∈ e0) → Sc (fun k => Used (n + 8) k ∨ k = j) (upd (upd h n (some ⟨true, T, z, []⟩)) j (some ⟨B.row, B.T, B.z, B.elems.set i (e.set o (.row n 0))⟩)) x := by
    rintro x ⟨e0, he0, hx0⟩
    refine ((r3.scH j B hB3).2 e0 he0 x hx0).map (fun k hk => .inl hk) fun k B' hk hB' => ?_
    obtain ⟨B0, h6, h7⟩ := hg k B' hk hB'
    exact ⟨B0, h6, by rcases h7 with h7 | h7 <;> omega⟩
   rcases hsetm e' he' with h5 | rfl
   · exact hmp x ⟨e', h5, hx⟩
   · obtain ⟨q, hq, hxi⟩ := List.getElem_of_mem hx
     rcases hnew q x (by rw [List.getElem?_eq_getElem hq, hxi]) with h5 | ⟨rfl, _⟩
     · exact hmp x ⟨e, hmem, List.mem_of_getElem? h5⟩
     · exact hscn)
 have r5 := r4.take (used' := Used (n + 8)) fun k hk => by
  rcases hk with hk | rfl
  · exact hk
  · have := (r.scH k B hB).1
    unfold Used at this ⊢
    simp only [] at this
    omega
 exact hv.out C a W ⟨ro, _, r5⟩⟩
end
end

def opB (e : EN) (r m : Nat) : List AV := [.c (.v (.int .i64 e.n.kind)), .c (.v (.string (str e.n.name))), .c (.sl 1 (e.n.aliases.map sPV)), .c e.f, .c (.sl 1 (e.n.symbols.map sPV)), .c (.v (.bool e.n.has)), .c (.v (.string (str e.n.dflt))), .c (.v (.int .i64 e.n.size)), .c (.v (.int .i64 e.n.items)), .row r m]
def opF (e : EN) (r m : Nat) : List AV := [.c (.v (.int .i64 e.n.kind)), .c (.v (.string (str e.n.name))), .c (.sl 1 (e.n.aliases.map sPV)), .row r m, .c (.sl 1 (e.n.symbols.map sPV)), .c (.v (.bool e.n.has)), .c (.v (.string (str e.n.dflt))), .c (.v (.int .i64 e.n.size)), .c (.v (.int .i64 e.n.items)), .c e.b]
def xNB (es : List EN) (i : Nat) (e : EN) (r m : Nat) : Blkd := ⟨true, 40, 10, (rA EN.cells es).set i (opB e r m)⟩
def xNF (es : List EN) (i : Nat) (e : EN) (r m : Nat) : Blkd := ⟨true, 40, 10, (rA EN.cells es).set i (opF e r m)⟩
theorem q0f (ρ : Nat → Nat) (es : List EN) (i : Nat) (c : List AV) : ((rA EN.cells es).set i c).map (AV.renL ρ) = (rA EN.cells es).set i (AV.renL ρ c) := by rw [List.map_set, q0b]
theorem q1k (ρ : Nat → Nat) (e : EN) (r m : Nat) : AV.renL ρ (opB e r m) = opB e (ρ r) m := rfl
theorem q02 (ρ : Nat → Nat) (e : EN) (r m : Nat) : AV.renL ρ (opF e r m) = opF e (ρ r) m := rfl
theorem q6g {used : Nat → Prop} {h : Nat → Option Blkd} {es : List EN} {i : Nat} (hi : i < es.length) (c : List AV) : (∀ e ∈ (rA EN.cells es).set i c, ∀ x ∈ e, Sc used h x) = (∀ x ∈ c, Sc used h x) := propext ⟨fun H x hx => H c (List.mem_set (by rw [q0a]; exact hi) c) x hx, fun H e he x hx => by
 rcases List.mem_or_eq_of_mem_set he with h5 | rfl
 · have h6 : (∀ e ∈ rA EN.cells es, ∀ x ∈ e, Sc used h x) := (q0i (used := used) (h := h) EN.cells es) ▸ trivial
   exact h6 e h5 x hx
 · exact H x hx⟩
theorem q26 {used : Nat → Prop} {h : Nat → Option Blkd} (e : EN) (r m : Nat) : (∀ x ∈ opB e r m, Sc used h x) = Sc used h (.row r m) := propext ⟨fun H => H _ (by simp [opB]), fun H x hx => by
 simp only [opB, List.mem_cons, List.not_mem_nil, or_false] at hx
 rcases hx with rfl | rfl | rfl | rfl | rfl | rfl | rfl | rfl | rfl | rfl
 all_goals first | exact .c | exact H⟩
theorem q8x {used : Nat → Prop} {h : Nat → Option Blkd} (e : EN) (r m : Nat) : (∀ x ∈ opF e r m, Sc used h x) = Sc used h (.row r m) := propext ⟨fun H => H _ (by simp [opF]), fun H x hx => by
 simp only [opF, List.mem_cons, List.not_mem_nil, or_false] at hx
 rcases hx with rfl | rfl | rfl | rfl | rfl | rfl | rfl | rfl | rfl | rfl
 all_goals first | exact .c | exact H⟩
theorem setB_at {es : List EN} {i o : Nat} {e m : EN} (hi : es[i]? = some e) (ho : es[o]? = some m) (r n : Nat) : ∃ c1 c2 c3 c4 c5 c6 c7 c8 c9, ((rA EN.cells es).set i (opB e r n))[o]? = some [.c (.v (.int .i64 m.n.kind)), c1, c2, c3, c4, c5, c6, c7, c8, c9] := by
 by_cases h : i = o
 · subst h
   rw [hi] at ho
   obtain rfl := Option.some.inj ho
   rw [List.getElem?_set_self (by rw [q0a]; exact (List.getElem?_eq_some_iff.1 hi).1)]
   exact ⟨_, _, _, _, _, _, _, _, _, rfl⟩
 · rw [List.getElem?_set_ne h, q6z ho]
   exact ⟨_, _, _, _, _, _, _, _, _, rfl⟩
def EN.wb (e : EN) (x : PV) : EN := ⟨e.n, e.f, x⟩
def EN.wf (e : EN) (x : PV) : EN := ⟨e.n, x, e.b⟩
theorem map_hid (r n : Nat) (x : Value) (l : List PV) : (l.map AV.c).map (hidA r n x) = l.map .c := by
 rw [List.map_map]
 exact List.map_congr_left fun p _ => rfl
theorem rA_hid (r n : Nat) (x : Value) (es : List EN) : (rA EN.cells es).map (fun e => e.map (hidA r n x)) = rA EN.cells es := by
 unfold rA
 rw [List.map_map]
 exact List.map_congr_left fun p _ => map_hid r n x _
theorem j5a (es : List EN) (i : Nat) (e : EN) (r n : Nat) (x : Value) : hidB r n x (xNB es i e r n) = xN (es.set i (e.wb (.v x))) := by
 unfold hidB xNB xN
 simp only [List.map_set, rA_hid, ← q7i]
 congr 1
 simp [opB, hidA, EN.wb, EN.cells]
theorem hid_xNF (es : List EN) (i : Nat) (e : EN) (r n : Nat) (x : Value) : hidB r n x (xNF es i e r n) = xN (es.set i (e.wf (.v x))) := by
 unfold hidB xNF xN
 simp only [List.map_set, rA_hid, ← q7i]
 congr 1
 simp [opF, hidA, EN.wf, EN.cells]
theorem j5b {es : List EN} {i : Nat} {e : EN} (hi : es[i]? = some e) (e' : EN) (hn : e'.n = e.n) : hsE (es.set i e') = hsE es := by
 unfold hsE
 rw [List.map_set, hn]
 refine List.ext_getElem? fun k => ?_
 by_cases h : i = k
 · subst h
   rw [List.getElem?_set_self (by rw [List.length_map]; exact (List.getElem?_eq_some_iff.1 hi).1), List.getElem?_map, hi]
   rfl
 · rw [List.getElem?_set_ne h]
theorem like_open {es : List EN} {i : Nat} {e0 : EN} (hi : es[i]? = some e0) (e k kd o : Int) (l : List Int) (h0 : 0 ≤ o) (h1 : o < (es.length : Int)) : ToldM Tryz.prog 165 [.c (.v (.int .i64 o)), .ref 1000000 1 0 0, .ref 1000001 1 0 0, .ref 1000002 1 0 0] [xI k, xI kd, xB, xW4 es.length e, xNB es i e0 1000005 l.length, xL l]
  [some (xI k), some (xI kd), some xB, some (xW4 es.length e), some (xNB es i e0 1000005 l.length), some (xL l)] (.c (.v (.bool (q52 (hsE es) k kd o)))) := by
 have hlt := (List.getElem?_eq_some_iff.1 hi).1
 have hlen : (xL l).len = l.length := by unfold xL Blkd.len; rw [q0a]
 refine ToldM.hide (L := [xI k, xI kd, xB, xW4 es.length e, xNB es i e0 1000005 l.length]) (L' := [some (xI k), some (xI kd), some xB, some (xW4 es.length e), some (xNB es i e0 1000005 l.length)]) (xL l) rfl ?_ rfl ?_ ?_ ?_
 · intro e he x hx
   obtain ⟨b, _, rfl⟩ := List.mem_map.1 he
   obtain ⟨p, _, rfl⟩ := List.mem_map.1 hx
   exact ⟨p, rfl⟩
 · intro x _
   rw [hlen]
   have h := like_told (es.set i (e0.wb (.v x))) e k kd o h0 (by rw [List.length_set]; exact h1)
   rw [j5b hi (e0.wb (.v x)) rfl, List.length_set] at h
   have hw : hidB (1000000 + 5) l.length x (xW4 es.length e) = xW4 es.length e := by
    unfold hidB xW4
    simp [hidA]
   have hn := j5a es i e0 1000005 l.length x
   simp only [List.map_cons, List.map_nil, Option.map_some, List.length_cons, List.length_nil]
   rw [show hidB (1000000 + 5) l.length x (xI k) = xI k from rfl, show hidB (1000000 + 5) l.length x (xI kd) = xI kd from rfl, show hidB (1000000 + 5) l.length x xB = xB from rfl, hw, show 1000000 + 5 = 1000005 from rfl, hn]
   exact h
 · exact ⟨rfl, rfl, rfl, rfl, rfl, rfl, trivial⟩
 · refine ⟨.c, fun b hb B hB e' he' => ?_⟩
   simp only [List.mem_append, List.mem_cons, List.not_mem_nil, or_false] at hb
   rcases hb with (rfl | rfl | rfl | rfl | rfl) | rfl
   all_goals obtain rfl := Option.some.inj hB
   · obtain rfl := List.mem_singleton.1 he'
     intro z hz
     obtain rfl := List.mem_singleton.1 hz
     exact .c
   · obtain rfl := List.mem_singleton.1 he'
     intro z hz
     obtain rfl := List.mem_singleton.1 hz
     exact .c
   · obtain rfl := List.mem_singleton.1 he'
     intro z hz
     obtain rfl := List.mem_singleton.1 hz
     refine .ref (by unfold inL; simp) fun B hB => ?_
     obtain rfl := Option.some.inj hB
     exact Nat.le_refl _
   · obtain rfl := List.mem_singleton.1 he'
     intro z hz
     simp only [List.mem_cons, List.not_mem_nil, or_false] at hz
     rcases hz with rfl | rfl | rfl
     · refine .row (by unfold inL; simp) fun B hB => ?_
       obtain rfl := Option.some.inj hB
       show es.length ≤ ((rA EN.cells es).set i _).length
       rw [List.length_set, q0a]
       exact Nat.le_refl _
     · exact .c
     · exact .c
   · have hs := (q6g (used := inL ([some (xI k), some (xI kd), some xB, some (xW4 es.length e), some (xNB es i e0 1000005 l.length)] ++ [some (xL l)]).length) (h := q0e ([some (xI k), some (xI kd), some xB, some (xW4 es.length e), some (xNB es i e0 1000005 l.length)] ++ [some (xL l)])) hlt (opB e0 1000005 l.length)).mpr
     rw [q26] at hs
     refine hs (.row (by unfold inL; simp) fun B hB => ?_) e' he'
     obtain rfl := Option.some.inj hB
     exact Nat.le_of_eq hlen.symm
   · intro z hz
     obtain ⟨b, _, rfl⟩ := List.mem_map.1 he'
     obtain ⟨p, _, rfl⟩ := List.mem_map.1 hz
     exact .c

theorem ixfB_told {es : List EN} {i0 : Nat} {e0 : EN} (hi0 : es[i0]? = some e0) (e k kd : Int) (l : List Int) (hl0 : l.length ≤ 1000000) (hl : ∀ o ∈ l, 0 ≤ o ∧ o < (es.length : Int)) : ToldM Tryz.prog 182 [.row 1000005 l.length, .fn (.func 165) [] [.ref 1000000 1 0 0, .ref 1000001 1 0 0, .ref 1000002 1 0 0]] [xI k, xI kd, xB, xW4 es.length e, xNB es i0 e0 1000005 l.length, xL l]
  [some (xI k), some (xI kd), some xB, some (xW4 es.length e), some (xNB es i0 e0 1000005 l.length), some (xL l)] (.c (.v (.int .i64 (idxP (q52 (hsE es) k kd) l)))) := by
 have hk := fun o (ho : o ∈ l) => like_open hi0 e k kd o l (hl o ho).1 (hl o ho).2
 have hlt := (List.getElem?_eq_some_iff.1 hi0).1
 have hsc : ∀ {used : Nat → Prop} {h : Nat → Option Blkd}, _ := fun {used} {h} => q6g (used := used) (h := h) hlt (opB e0 1000005 l.length)
 generalize q52 (hsE es) k kd = p at *
 unfold xI xB xW4 xNB xL at hk ⊢
 refine VC.toldM ent_182 [] Tryz.func182 rfl Tryz.ntmps182 (by simp) (by simp only [ q0a, q0i, hsc, q26, List.length_set, ScM, zOk, inL, eq_self, q0x, q0r, sc_c, q0t, q0u, q0v, q0q, q2j, q0s, ScL, q0w, List.forall_mem_map, Nat.le_refl, go_sem, simprocAttr]) (by simp only [ q0a, q0i, hsc, q26, List.length_set, ScM, zOk, inL, eq_self, q0x, q0r, sc_c, q0t, q0u, q0v, q0q, q2j, q0s, ScL, q0w, List.forall_mem_map, Nat.le_refl, go_sem, simprocAttr]) (by simp only [ q0a, q0i, hsc, q26, List.length_set, ScM, zOk, inL, eq_self, q0x, q0r, sc_c, q0t, q0u, q0v, q0q, q2j, q0s, ScL, q0w, List.forall_mem_map, Nat.le_refl, go_sem, simprocAttr]) (by simp only [ q0a, q0i, hsc, q26, List.length_set, ScM, zOk, inL, eq_self, q0x, q0r, sc_c, q0t, q0u, q0v, q0q, q2j, q0s, ScL, q0w, List.forall_mem_map, Nat.le_refl, go_sem, simprocAttr]) (by simp) fun hb hbL => ?_
 clear hb hbL
 (repeat (first | refine pass ?_ | refine VC.region (by rfl) (by rfl) ?_ | (refine AO.step fun K hK => ?_; simp only [List.length_set, q0a, go_sem, Int.reduceBEq, Int.reduceLE, Int.reduceLT, Int.reduceNeg, Nat.reduceAdd, Nat.reduceEqDiff, Nat.reduceLT, Nat.reduceLeDiff, Nat.reduceMul, Nat.reduceSub, reduceCtorEq, ↓reduceIte]; (first | refine q07 ?_ | refine q0g ?_ | skip); (first | refine hK _ _ _ ?_ | refine ⟨by first | omega | exact ⟨_, rfl, rfl⟩ | exact fun _ => ⟨_, rfl, rfl⟩ | (intro h; simp only [List.length_set, q0a, h, true_and]; omega) | (clear hK; intro h; simp_all <;> omega), hK _ _ _ ?_⟩); clear hK K) | refine VC.draw mixP (by rfl) (by rfl) ?_ | refine ⟨q08 (by kernel_rfl), ?_⟩ | refine BQ.other (by decide) ?_ | refine VC.seq ?_ | refine AO.nil ?_ | refine VC.block ?_))
 refine VC.loop (ι := {i : Nat // i ≤ l.length ∧ ∀ j x, j < i → l[j]? = some x → p x = false}) (fun i => [(0, .row 1000005 l.length), (1, .fn (.func 165) [] [.ref 1000000 1 0 0, .ref 1000001 1 0 0, .ref 1000002 1 0 0]), (7, .c (.v (.int .i64 l.length))), (8, .c (.v (.int .i64 i.1)))])
  (fun _ => [(1000000, ⟨false, 3, 1, [[.c (.v (.int .i64 k))]]⟩), (1000001, ⟨false, 3, 1, [[.c (.v (.int .i64 kd))]]⟩), (1000002, ⟨false, 58, 1, [[.ref 1000003 1 0 0]]⟩), (1000003, ⟨false, 60, 3, [[.row 1000004 es.length, .c (.v (.int .i64 0)), .c (.v (.int .i64 e))]]⟩),
   (1000004, ⟨true, 40, 10, (rA EN.cells es).set i0 (opB e0 1000005 l.length)⟩), (1000005, ⟨true, 3, 1, rA iPV l⟩)]) 800 (fun i => l.length - i.1) ⟨0, Nat.zero_le _, by simp⟩ ?_ ?_
 · simp only [q0a, q0i, hsc, q26, List.length_set, q0b, q0f, q1k, Weak, eq_self, q0x, q0r, sc_c, q0t, q0u, q0v, q0q, q0s, ScL, q0w, List.forall_mem_map, go_sem, Int.reduceBEq, Int.reduceLE, Int.reduceLT, Int.reduceNeg, Nat.reduceAdd, Nat.reduceEqDiff, Nat.reduceLT, Nat.reduceLeDiff, Nat.reduceMul, Nat.reduceSub, reduceCtorEq, ↓reduceIte]
   all_goals exact ⟨Nat.le_refl _, Nat.le_refl _, Nat.le_refl _⟩
 rintro ⟨i, hi, ht⟩
 simp only []
 (repeat (first | refine pass ?_ | refine VC.region (by rfl) (by rfl) ?_ | (refine AO.step fun K hK => ?_; simp only [List.length_set, q0a, go_sem, Int.reduceBEq, Int.reduceLE, Int.reduceLT, Int.reduceNeg, Nat.reduceAdd, Nat.reduceEqDiff, Nat.reduceLT, Nat.reduceLeDiff, Nat.reduceMul, Nat.reduceSub, reduceCtorEq, ↓reduceIte]; (first | refine q07 ?_ | refine q0g ?_ | skip); (first | refine hK _ _ _ ?_ | refine ⟨by first | omega | exact ⟨_, rfl, rfl⟩ | exact fun _ => ⟨_, rfl, rfl⟩ | (intro h; simp only [List.length_set, q0a, h, true_and]; omega) | (clear hK; intro h; simp_all <;> omega), hK _ _ _ ?_⟩); clear hK K) | refine VC.draw mixP (by rfl) (by rfl) ?_ | refine ⟨q08 (by kernel_rfl), ?_⟩ | refine BQ.other (by decide) ?_ | refine VC.seq ?_ | refine AO.nil ?_ | refine VC.block ?_))
 refine VC.cond (by rfl) (by trivial) (fun hc => ?_) (fun hc => ?_)
 · simp only [decide_eq_true_eq] at hc
   obtain ⟨x, hx⟩ : ∃ x, l[i]? = some x := ⟨l[i]'(by omega), List.getElem?_eq_getElem _⟩
   have hw : IntKind.i64.wrap ((i : Int) + 1) = (i : Int) + 1 := q1g (by omega) (by omega)
   have hkx := hk x (List.mem_of_getElem? hx)
   have hix : (rA iPV l)[i]? = some [.c (.v (.int .i64 x))] := q6z hx
   (repeat (first | refine pass ?_ | refine VC.region (by rfl) (by rfl) ?_ | (refine AO.step fun K hK => ?_; simp only [List.length_set, q0a, hix, go_sem, Int.reduceBEq, Int.reduceLE, Int.reduceLT, Int.reduceNeg, Nat.reduceAdd, Nat.reduceEqDiff, Nat.reduceLT, Nat.reduceLeDiff, Nat.reduceMul, Nat.reduceSub, reduceCtorEq, ↓reduceIte]; (first | refine q07 ?_ | refine q0g ?_ | skip); (first | refine hK _ _ _ ?_ | refine ⟨by first | omega | exact ⟨_, rfl, rfl⟩ | exact fun _ => ⟨_, rfl, rfl⟩ | (intro h; simp only [List.length_set, q0a, hix, h, true_and]; omega) | (clear hK; intro h; simp_all <;> omega), hK _ _ _ ?_⟩); clear hK K) | refine VC.draw mixP (by rfl) (by rfl) ?_ | refine ⟨q08 (by kernel_rfl), ?_⟩ | refine BQ.other (by decide) ?_ | refine VC.seq ?_ | refine AO.nil ?_ | refine VC.block ?_))
   ((refine AO.step fun K hK => ?_; simp only [go_sem, Int.reduceBEq, Int.reduceLE, Int.reduceLT, Int.reduceNeg, Nat.reduceAdd, Nat.reduceEqDiff, Nat.reduceLT, Nat.reduceLeDiff, Nat.reduceMul, Nat.reduceSub, reduceCtorEq, ↓reduceIte, q0a, q0b, q0f, q1k, List.length_set]; (first | refine q0g ?_ | skip)); refine .inr (.inr (.inl ⟨?vy1, [1000000, 1000001, 1000002, 1000003, 1000004, 1000005], ?va1, ?vl1, ?vm1, ?cond1, ?cont1⟩)); (case cond1 => ((repeat' apply And.intro) <;> (try ((with_reducible show ToldM _ _ _ _ _ _); exact hkx))); (all_goals first | trivial | (simp only [q0a, q0b, q0f, q1k, List.length_set, go_sem, simprocAttr]; done) | (simp; done) | rfl)); (first | refine hK _ _ _ ?_ | (simp only [q0a, q0b, q0f, q1k, List.length_set, go_sem, simprocAttr]; first | refine hK _ _ _ ?_ | refine ⟨rfl, hK _ _ _ ?_⟩)); clear hK K)
   (repeat (first | refine pass ?_ | refine VC.region (by rfl) (by rfl) ?_ | (refine AO.step fun K hK => ?_; simp only [List.length_set, q0a, q0b, q0f, q1k, go_sem, Int.reduceBEq, Int.reduceLE, Int.reduceLT, Int.reduceNeg, Nat.reduceAdd, Nat.reduceEqDiff, Nat.reduceLT, Nat.reduceLeDiff, Nat.reduceMul, Nat.reduceSub, reduceCtorEq, ↓reduceIte]; (first | refine q07 ?_ | refine q0g ?_ | skip); (first | refine hK _ _ _ ?_ | refine ⟨by first | omega | exact ⟨_, rfl, rfl⟩ | exact fun _ => ⟨_, rfl, rfl⟩ | (intro h; simp only [List.length_set, q0a, q0b, q0f, q1k, h, true_and]; omega) | (clear hK; intro h; simp_all <;> omega), hK _ _ _ ?_⟩); clear hK K) | refine VC.draw mixP (by rfl) (by rfl) ?_ | refine ⟨q08 (by kernel_rfl), ?_⟩ | refine BQ.other (by decide) ?_ | refine VC.seq ?_ | refine AO.nil ?_ | refine VC.block ?_))
   refine VC.cond (by rfl) (by trivial) (fun hpx => ?_) (fun hpx => ?_)
   · have hr := q8n hx hpx ht
     (repeat (first | refine pass ?_ | refine VC.region (by rfl) (by rfl) ?_ | (refine AO.step fun K hK => ?_; simp only [List.length_set, q0a, q0b, q0f, q1k, go_sem, Int.reduceBEq, Int.reduceLE, Int.reduceLT, Int.reduceNeg, Nat.reduceAdd, Nat.reduceEqDiff, Nat.reduceLT, Nat.reduceLeDiff, Nat.reduceMul, Nat.reduceSub, reduceCtorEq, ↓reduceIte]; (first | refine q07 ?_ | refine q0g ?_ | skip); (first | refine hK _ _ _ ?_ | refine ⟨by first | omega | exact ⟨_, rfl, rfl⟩ | exact fun _ => ⟨_, rfl, rfl⟩ | (intro h; simp only [List.length_set, q0a, q0b, q0f, q1k, h, true_and]; omega) | (clear hK; intro h; simp_all <;> omega), hK _ _ _ ?_⟩); clear hK K) | refine VC.draw mixP (by rfl) (by rfl) ?_ | refine ⟨q08 (by kernel_rfl), ?_⟩ | refine BQ.other (by decide) ?_ | refine VC.seq ?_ | refine AO.nil ?_ | refine VC.block ?_))
     refine q09 (And.intro @q0b (And.intro @q0f @q1k)) Tryz.results182 ?_
     rw [hr]
     exact .c _
   · refine q0d (And.intro hw (And.intro @q0a (And.intro @q0b (And.intro @q0f @q1k)))) ?_
     refine .next ⟨i + 1, by omega, fun j y hj hy => ?_⟩ ?_ (by simp only []; omega)
     · rcases Nat.lt_or_ge j i with h | h
       · exact ht j y h hy
       · obtain rfl : j = i := by omega
         rw [hx] at hy
         obtain rfl := Option.some.inj hy
         exact hpx
     simp only [q0a, q0i, hsc, q26, List.length_set, q0b, q0f, q1k, Weak, eq_self, q0x, q0r, sc_c, q0t, q0u, q0v, q0q, q0s, ScL, q0w, List.forall_mem_map, go_sem, Int.reduceBEq, Int.reduceLE, Int.reduceLT, Int.reduceNeg, Nat.reduceAdd, Nat.reduceEqDiff, Nat.reduceLT, Nat.reduceLeDiff, Nat.reduceMul, Nat.reduceSub, reduceCtorEq, ↓reduceIte]
     all_goals exact ⟨cI (by omega), Nat.le_refl _, Nat.le_refl _, Nat.le_refl _⟩
 · simp only [decide_eq_false_iff_not] at hc
   obtain rfl : i = l.length := by omega
   have hr := q8o ht
   (repeat (first | refine pass ?_ | refine VC.region (by rfl) (by rfl) ?_ | (refine AO.step fun K hK => ?_; simp only [List.length_set, q0a, q0b, q0f, q1k, go_sem, Int.reduceBEq, Int.reduceLE, Int.reduceLT, Int.reduceNeg, Nat.reduceAdd, Nat.reduceEqDiff, Nat.reduceLT, Nat.reduceLeDiff, Nat.reduceMul, Nat.reduceSub, reduceCtorEq, ↓reduceIte]; (first | refine q07 ?_ | refine q0g ?_ | skip); (first | refine hK _ _ _ ?_ | refine ⟨by first | omega | exact ⟨_, rfl, rfl⟩ | exact fun _ => ⟨_, rfl, rfl⟩ | (intro h; simp only [List.length_set, q0a, q0b, q0f, q1k, h, true_and]; omega) | (clear hK; intro h; simp_all <;> omega), hK _ _ _ ?_⟩); clear hK K) | refine VC.draw mixP (by rfl) (by rfl) ?_ | refine ⟨q08 (by kernel_rfl), ?_⟩ | refine BQ.other (by decide) ?_ | refine VC.seq ?_ | refine AO.nil ?_ | refine VC.block ?_))
   refine q09 (And.intro @q0b (And.intro @q0f @q1k)) Tryz.results182 ?_
   rw [hr]
   exact .c _
theorem cfB_told {es : List EN} {i0 : Nat} {e0 : EN} (hi0 : es[i0]? = some e0) (e k kd : Int) (l : List Int) (hl0 : l.length ≤ 1000000) (hl : ∀ o ∈ l, 0 ≤ o ∧ o < (es.length : Int)) : ToldM Tryz.prog 143 [.row 1000005 l.length, .fn (.func 165) [] [.ref 1000000 1 0 0, .ref 1000001 1 0 0, .ref 1000002 1 0 0]] [xI k, xI kd, xB, xW4 es.length e, xNB es i0 e0 1000005 l.length, xL l]
  [some (xI k), some (xI kd), some xB, some (xW4 es.length e), some (xNB es i0 e0 1000005 l.length), some (xL l)] (.c (.v (.bool (decide (0 ≤ idxP (q52 (hsE es) k kd) l))))) := by
 have hI := ixfB_told hi0 e k kd l hl0 hl
 have hlt := (List.getElem?_eq_some_iff.1 hi0).1
 have hsc : ∀ {used : Nat → Prop} {h : Nat → Option Blkd}, _ := fun {used} {h} => q6g (used := used) (h := h) hlt (opB e0 1000005 l.length)
 generalize idxP (q52 (hsE es) k kd) l = V at *
 unfold xI xB xW4 xNB xL at hI ⊢
 refine VC.toldM ent_143 [] Tryz.func143 rfl Tryz.ntmps143 (by simp) (by simp only [ q0a, q0i, hsc, q26, List.length_set, ScM, zOk, inL, eq_self, q0x, q0r, sc_c, q0t, q0u, q0v, q0q, q2j, q0s, ScL, q0w, List.forall_mem_map, Nat.le_refl, go_sem, simprocAttr]) (by simp only [ q0a, q0i, hsc, q26, List.length_set, ScM, zOk, inL, eq_self, q0x, q0r, sc_c, q0t, q0u, q0v, q0q, q2j, q0s, ScL, q0w, List.forall_mem_map, Nat.le_refl, go_sem, simprocAttr]) (by simp only [ q0a, q0i, hsc, q26, List.length_set, ScM, zOk, inL, eq_self, q0x, q0r, sc_c, q0t, q0u, q0v, q0q, q2j, q0s, ScL, q0w, List.forall_mem_map, Nat.le_refl, go_sem, simprocAttr]) (by simp only [ q0a, q0i, hsc, q26, List.length_set, ScM, zOk, inL, eq_self, q0x, q0r, sc_c, q0t, q0u, q0v, q0q, q2j, q0s, ScL, q0w, List.forall_mem_map, Nat.le_refl, go_sem, simprocAttr]) (by simp) fun hb hbL => ?_
 clear hb hbL
 (repeat (first | refine pass ?_ | refine VC.region (by rfl) (by rfl) ?_ | (refine AO.step fun K hK => ?_; simp only [List.length_set, q0a, go_sem, Int.reduceBEq, Int.reduceLE, Int.reduceLT, Int.reduceNeg, Nat.reduceAdd, Nat.reduceEqDiff, Nat.reduceLT, Nat.reduceLeDiff, Nat.reduceMul, Nat.reduceSub, reduceCtorEq, ↓reduceIte]; (first | refine q07 ?_ | refine q0g ?_ | skip); (first | refine hK _ _ _ ?_ | refine ⟨by first | omega | exact ⟨_, rfl, rfl⟩ | exact fun _ => ⟨_, rfl, rfl⟩ | (intro h; simp only [List.length_set, q0a, h, true_and]; omega) | (clear hK; intro h; simp_all <;> omega), hK _ _ _ ?_⟩); clear hK K) | refine VC.draw mixP (by rfl) (by rfl) ?_ | refine ⟨q08 (by kernel_rfl), ?_⟩ | refine BQ.other (by decide) ?_ | refine VC.seq ?_ | refine AO.nil ?_ | refine VC.block ?_))
 ((refine AO.step fun K hK => ?_; simp only [go_sem, Int.reduceBEq, Int.reduceLE, Int.reduceLT, Int.reduceNeg, Nat.reduceAdd, Nat.reduceEqDiff, Nat.reduceLT, Nat.reduceLeDiff, Nat.reduceMul, Nat.reduceSub, reduceCtorEq, ↓reduceIte, q0a, q0b, q0f, q1k, List.length_set]; (first | refine q0g ?_ | skip)); refine .inr (.inr (.inl ⟨?vy2, [1000000, 1000001, 1000002, 1000003, 1000004, 1000005], ?va2, ?vl2, ?vm2, ?cond2, ?cont2⟩)); (case cond2 => ((repeat' apply And.intro) <;> (try ((with_reducible show ToldM _ _ _ _ _ _); exact hI))); (all_goals first | trivial | (simp only [q0a, q0b, q0f, q1k, List.length_set, go_sem, simprocAttr]; done) | (simp; done) | rfl)); (first | refine hK _ _ _ ?_ | (simp only [q0a, q0b, q0f, q1k, List.length_set, go_sem, simprocAttr]; first | refine hK _ _ _ ?_ | refine ⟨rfl, hK _ _ _ ?_⟩)); clear hK K)
 (repeat (first | refine pass ?_ | refine VC.region (by rfl) (by rfl) ?_ | (refine AO.step fun K hK => ?_; simp only [List.length_set, q0a, q0b, q0f, q1k, go_sem, Int.reduceBEq, Int.reduceLE, Int.reduceLT, Int.reduceNeg, Nat.reduceAdd, Nat.reduceEqDiff, Nat.reduceLT, Nat.reduceLeDiff, Nat.reduceMul, Nat.reduceSub, reduceCtorEq, ↓reduceIte]; (first | refine q07 ?_ | refine q0g ?_ | skip); (first | refine hK _ _ _ ?_ | refine ⟨by first | omega | exact ⟨_, rfl, rfl⟩ | exact fun _ => ⟨_, rfl, rfl⟩ | (intro h; simp only [List.length_set, q0a, q0b, q0f, q1k, h, true_and]; omega) | (clear hK; intro h; simp_all <;> omega), hK _ _ _ ?_⟩); clear hK K) | refine VC.draw mixP (by rfl) (by rfl) ?_ | refine ⟨q08 (by kernel_rfl), ?_⟩ | refine BQ.other (by decide) ?_ | refine VC.seq ?_ | refine AO.nil ?_ | refine VC.block ?_))
 refine q09 (And.intro @q0b (And.intro @q0f @q1k)) Tryz.results143 ?_
 exact .c _
theorem z2x {es : List EN} {i0 : Nat} {e0 : EN} (hi0 : es[i0]? = some e0) (e k : Int) (h0 : 0 ≤ k) (h1 : k < (es.length : Int)) (l : List Int) (hl0 : l.length ≤ 1000000) (hl : ∀ o ∈ l, 0 ≤ o ∧ o < (es.length : Int)) : ToldM Tryz.prog 120 [.ref 1000000 1 0 0, .row 1000002 l.length, .c (.v (.int .i64 k))] [xW es.length e, xNB es i0 e0 1000002 l.length, xL l]
  [some (xW es.length e), some (xNB es i0 e0 1000002 l.length), some (xL l)] (.c (.v (.bool (q2v (hsE es) k.toNat != 13 && !decide (0 ≤ idxP (q52 (hsE es) k (q2v (hsE es) k.toNat)) l))))) := by
 have hlt := (List.getElem?_eq_some_iff.1 hi0).1
 have hsc : ∀ {used : Nat → Prop} {h : Nat → Option Blkd}, _ := fun {used} {h} => q6g (used := used) (h := h) hlt (opB e0 1000002 l.length)
 obtain ⟨m, hm⟩ : ∃ m, es[k.toNat]? = some m := ⟨es[k.toNat]'(by omega), List.getElem?_eq_getElem _⟩
 have hkh : q2v (hsE es) k.toNat = m.n.kind := by
  unfold q2v hsE
  rw [List.getElem?_map, hm]
  rfl
 have hC := cfB_told hi0 e k m.n.kind l hl0 hl
 rw [hkh]
 obtain ⟨c1, c2, c3, c4, c5, c6, c7, c8, c9, hat⟩ := setB_at hi0 hm 1000002 l.length
 generalize idxP (q52 (hsE es) k m.n.kind) l = V at *
 generalize m.n.kind = mk at *
 unfold xW xNB xL at *
 unfold xI xB xW4 at hC
 cases hq : mk != 13 with
 | false =>
   rw [Bool.false_and]
   refine VC.toldM ent_120 [] Tryz.func120 rfl Tryz.ntmps120 (by simp) (by simp only [ q0a, q0i, hsc, q26, List.length_set, ScM, zOk, inL, eq_self, q0x, q0r, sc_c, q0t, q0u, q0v, q0q, q2j, q0s, ScL, q0w, List.forall_mem_map, Nat.le_refl, go_sem, simprocAttr]) (by simp only [ q0a, q0i, hsc, q26, List.length_set, ScM, zOk, inL, eq_self, q0x, q0r, sc_c, q0t, q0u, q0v, q0q, q2j, q0s, ScL, q0w, List.forall_mem_map, Nat.le_refl, go_sem, simprocAttr]) (by simp only [ q0a, q0i, hsc, q26, List.length_set, ScM, zOk, inL, eq_self, q0x, q0r, sc_c, q0t, q0u, q0v, q0q, q2j, q0s, ScL, q0w, List.forall_mem_map, Nat.le_refl, go_sem, simprocAttr]) (by simp only [ q0a, q0i, hsc, q26, List.length_set, ScM, zOk, inL, eq_self, q0x, q0r, sc_c, q0t, q0u, q0v, q0q, q2j, q0s, ScL, q0w, List.forall_mem_map, Nat.le_refl, go_sem, simprocAttr]) (by simp) fun hb hbL => ?_
   clear hb hbL
   (repeat (first | refine pass ?_ | refine VC.region (by rfl) (by rfl) ?_ | (refine AO.step fun K hK => ?_; simp only [List.length_set, q0a, hat, hq, h0, h1, go_sem, Int.reduceBEq, Int.reduceLE, Int.reduceLT, Int.reduceNeg, Nat.reduceAdd, Nat.reduceEqDiff, Nat.reduceLT, Nat.reduceLeDiff, Nat.reduceMul, Nat.reduceSub, reduceCtorEq, ↓reduceIte]; (first | refine q07 ?_ | refine q0g ?_ | skip); (first | refine hK _ _ _ ?_ | refine ⟨by first | omega | exact ⟨_, rfl, rfl⟩ | exact fun _ => ⟨_, rfl, rfl⟩ | (intro h; simp only [List.length_set, q0a, hat, hq, h0, h1, h, true_and]; omega) | (clear hK; intro h; simp_all <;> omega), hK _ _ _ ?_⟩); clear hK K) | refine VC.draw mixP (by rfl) (by rfl) ?_ | refine ⟨q08 (by kernel_rfl), ?_⟩ | refine BQ.other (by decide) ?_ | refine VC.seq ?_ | refine AO.nil ?_ | refine VC.block ?_))
   refine q09 (And.intro @q0b (And.intro @q0f @q1k)) Tryz.results120 ?_
   exact .c _
 | true =>
   rw [Bool.true_and]
   refine VC.toldM ent_120 [] Tryz.func120 rfl Tryz.ntmps120 (by simp) (by simp only [ q0a, q0i, hsc, q26, List.length_set, ScM, zOk, inL, eq_self, q0x, q0r, sc_c, q0t, q0u, q0v, q0q, q2j, q0s, ScL, q0w, List.forall_mem_map, Nat.le_refl, go_sem, simprocAttr]) (by simp only [ q0a, q0i, hsc, q26, List.length_set, ScM, zOk, inL, eq_self, q0x, q0r, sc_c, q0t, q0u, q0v, q0q, q2j, q0s, ScL, q0w, List.forall_mem_map, Nat.le_refl, go_sem, simprocAttr]) (by simp only [ q0a, q0i, hsc, q26, List.length_set, ScM, zOk, inL, eq_self, q0x, q0r, sc_c, q0t, q0u, q0v, q0q, q2j, q0s, ScL, q0w, List.forall_mem_map, Nat.le_refl, go_sem, simprocAttr]) (by simp only [ q0a, q0i, hsc, q26, List.length_set, ScM, zOk, inL, eq_self, q0x, q0r, sc_c, q0t, q0u, q0v, q0q, q2j, q0s, ScL, q0w, List.forall_mem_map, Nat.le_refl, go_sem, simprocAttr]) (by simp) fun hb hbL => ?_
   clear hb hbL
   (repeat (first | refine pass ?_ | refine VC.region (by rfl) (by rfl) ?_ | (refine AO.step fun K hK => ?_; simp only [List.length_set, q0a, hat, hq, h0, h1, go_sem, Int.reduceBEq, Int.reduceLE, Int.reduceLT, Int.reduceNeg, Nat.reduceAdd, Nat.reduceEqDiff, Nat.reduceLT, Nat.reduceLeDiff, Nat.reduceMul, Nat.reduceSub, reduceCtorEq, ↓reduceIte]; (first | refine q07 ?_ | refine q0g ?_ | skip); (first | refine hK _ _ _ ?_ | refine ⟨by first | omega | exact ⟨_, rfl, rfl⟩ | exact fun _ => ⟨_, rfl, rfl⟩ | (intro h; simp only [List.length_set, q0a, hat, hq, h0, h1, h, true_and]; omega) | (clear hK; intro h; simp_all <;> omega), hK _ _ _ ?_⟩); clear hK K) | refine VC.draw mixP (by rfl) (by rfl) ?_ | refine ⟨q08 (by kernel_rfl), ?_⟩ | refine BQ.other (by decide) ?_ | refine VC.seq ?_ | refine AO.nil ?_ | refine VC.block ?_))
   ((refine AO.step fun K hK => ?_; simp only [go_sem, Int.reduceBEq, Int.reduceLE, Int.reduceLT, Int.reduceNeg, Nat.reduceAdd, Nat.reduceEqDiff, Nat.reduceLT, Nat.reduceLeDiff, Nat.reduceMul, Nat.reduceSub, reduceCtorEq, ↓reduceIte, q0a, q0b, q0f, q1k, List.length_set]; (first | refine q0g ?_ | skip)); refine .inr (.inr (.inl ⟨?vy3, [8, 96, 0, 1000000, 1000001, 1000002], ?va3, ?vl3, ?vm3, ?cond3, ?cont3⟩)); (case cond3 => ((repeat' apply And.intro) <;> (try ((with_reducible show ToldM _ _ _ _ _ _); exact hC))); (all_goals first | trivial | (simp only [q0a, q0b, q0f, q1k, List.length_set, go_sem, simprocAttr]; done) | (simp; done) | rfl)); (first | refine hK _ _ _ ?_ | (simp only [q0a, q0b, q0f, q1k, List.length_set, go_sem, simprocAttr]; first | refine hK _ _ _ ?_ | refine ⟨rfl, hK _ _ _ ?_⟩)); clear hK K)
   (repeat (first | refine pass ?_ | refine VC.region (by rfl) (by rfl) ?_ | (refine AO.step fun K hK => ?_; simp only [List.length_set, q0a, q0b, q0f, q1k, go_sem, Int.reduceBEq, Int.reduceLE, Int.reduceLT, Int.reduceNeg, Nat.reduceAdd, Nat.reduceEqDiff, Nat.reduceLT, Nat.reduceLeDiff, Nat.reduceMul, Nat.reduceSub, reduceCtorEq, ↓reduceIte]; (first | refine q07 ?_ | refine q0g ?_ | skip); (first | refine hK _ _ _ ?_ | refine ⟨by first | omega | exact ⟨_, rfl, rfl⟩ | exact fun _ => ⟨_, rfl, rfl⟩ | (intro h; simp only [List.length_set, q0a, q0b, q0f, q1k, h, true_and]; omega) | (clear hK; intro h; simp_all <;> omega), hK _ _ _ ?_⟩); clear hK K) | refine VC.draw mixP (by rfl) (by rfl) ?_ | refine ⟨q08 (by kernel_rfl), ?_⟩ | refine BQ.other (by decide) ?_ | refine VC.seq ?_ | refine AO.nil ?_ | refine VC.block ?_))
   refine q09 (And.intro @q0b (And.intro @q0f @q1k)) Tryz.results120 ?_
   exact .c _

theorem j3l (r n0 : Nat) (x : Value) (n : Nat) (e : Int) (h : r ≠ 1000001) : hidB r n0 x (xW n e) = xW n e := by
 unfold hidB xW
 simp [hidA, Ne.symm h]
theorem z0z {used : Nat → Prop} {h : Nat → Option Blkd} {R : Blkd} (hpure : ∀ e ∈ R.elems, ∀ x ∈ e, ∃ p, x = AV.c p) : ∀ e ∈ R.elems, ScL used h e := fun e he x hx => by
 obtain ⟨p, rfl⟩ := hpure e he x hx
 exact .c
theorem q8w (es : List EN) (new : List NT) : (es ++ new.map EN.of).length = es.length + new.length := by simp
theorem open_scB {es : List EN} {i : Nat} {e0 : EN} (hi : i < es.length) (R : Blkd) (hrow : R.row = true) (hpure : ∀ e ∈ R.elems, ∀ x ∈ e, ∃ p, x = AV.c p) (n' : Nat) (e' : Int) (hn' : n' = es.length) (y : AV) (hy : ∀ used h, Sc used h y) :
  ScM ([some (xW n' e'), some (xNB es i e0 1000002 R.len)] ++ [some R]) y := by
 refine ⟨hy _ _, fun b hb B hB e he => ?_⟩
 simp only [List.mem_append, List.mem_cons, List.not_mem_nil, or_false] at hb
 rcases hb with (rfl | rfl) | rfl
 all_goals obtain rfl := Option.some.inj hB
 · obtain rfl := List.mem_singleton.1 he
   intro z hz
   simp only [List.mem_cons, List.not_mem_nil, or_false] at hz
   rcases hz with rfl | rfl | rfl
   · refine .row (by unfold inL; simp) fun B hB => ?_
     obtain rfl := Option.some.inj hB
     show n' ≤ ((rA EN.cells es).set i _).length
     rw [List.length_set, q0a]
     exact Nat.le_of_eq hn'
   · exact .c
   · exact .c
 · have hs := (q6g (used := inL ([some (xW n' e'), some (xNB es i e0 1000002 R.len)] ++ [some R]).length) (h := q0e ([some (xW n' e'), some (xNB es i e0 1000002 R.len)] ++ [some R])) hi (opB e0 1000002 R.len)).mpr
   rw [q26] at hs
   refine hs (.row (by unfold inL; simp) fun B hB => ?_) e he
   obtain rfl := Option.some.inj hB
   exact Nat.le_refl _
 · exact z0z hpure e he
theorem open_told {f : FuncId} {args : List AV} {y : AV} {es : List EN} {i : Nat} {e0 : EN} (hi : es[i]? = some e0) (R : Blkd) (hrow : R.row = true) (hpure : ∀ e ∈ R.elems, ∀ x ∈ e, ∃ p, x = AV.c p) (n n' : Nat) (e e' : Int) (new : List NT)
  (hn : n' = es.length + new.length) (hy : ∀ used h, Sc used h y)
  (hT : ∀ x : Value, ToldM Tryz.prog f args [xW n e, xN (es.set i (e0.wb (.v x)))] [some (xW n' e'), some (xN (es.set i (e0.wb (.v x)) ++ new.map EN.of))] y) :
  ToldM Tryz.prog f args [xW n e, xNB es i e0 1000002 R.len, R] [some (xW n' e'), some (xNB (es ++ new.map EN.of) i e0 1000002 R.len), some R] y := by
 have hlt := (List.getElem?_eq_some_iff.1 hi).1
 refine ToldM.hide (L := [xW n e, xNB es i e0 1000002 R.len]) (L' := [some (xW n' e'), some (xNB (es ++ new.map EN.of) i e0 1000002 R.len)]) R hrow hpure rfl ?_ ?_ ?_
 · intro x _
   have h := hT x
   have hs : es.set i (e0.wb (.v x)) ++ new.map EN.of = (es ++ new.map EN.of).set i (e0.wb (.v x)) := (List.set_append_left i (e0.wb (.v x)) hlt).symm
   rw [hs] at h
   have h1 := j5a es i e0 1000002 R.len x
   have h2 := j5a (es ++ new.map EN.of) i e0 1000002 R.len x
   simp only [List.map_cons, List.map_nil, Option.map_some, List.length_cons, List.length_nil]
   rw [show 1000000 + (0 + 1 + 1) = 1000002 from rfl, j3l _ _ _ _ _ (by decide), j3l _ _ _ _ _ (by decide), h1, h2]
   exact h
 · exact ⟨rfl, rfl, rfl, trivial⟩
 · exact open_scB (by rw [q8w]; omega) R hrow hpure n' e' (by rw [hn, q8w]) y hy
theorem open_scF {es : List EN} {i : Nat} {e0 : EN} (hi : i < es.length) (R : Blkd) (hrow : R.row = true) (hpure : ∀ e ∈ R.elems, ∀ x ∈ e, ∃ p, x = AV.c p) (n' : Nat) (e' : Int) (hn' : n' = es.length) (y : AV) (hy : ∀ used h, Sc used h y) :
  ScM ([some (xW n' e'), some (xNF es i e0 1000002 R.len)] ++ [some R]) y := by
 refine ⟨hy _ _, fun b hb B hB e he => ?_⟩
 simp only [List.mem_append, List.mem_cons, List.not_mem_nil, or_false] at hb
 rcases hb with (rfl | rfl) | rfl
 all_goals obtain rfl := Option.some.inj hB
 · obtain rfl := List.mem_singleton.1 he
   intro z hz
   simp only [List.mem_cons, List.not_mem_nil, or_false] at hz
   rcases hz with rfl | rfl | rfl
   · refine .row (by unfold inL; simp) fun B hB => ?_
     obtain rfl := Option.some.inj hB
     show n' ≤ ((rA EN.cells es).set i _).length
     rw [List.length_set, q0a]
     exact Nat.le_of_eq hn'
   · exact .c
   · exact .c
 · have hs := (q6g (used := inL ([some (xW n' e'), some (xNF es i e0 1000002 R.len)] ++ [some R]).length) (h := q0e ([some (xW n' e'), some (xNF es i e0 1000002 R.len)] ++ [some R])) hi (opF e0 1000002 R.len)).mpr
   rw [q8x] at hs
   refine hs (.row (by unfold inL; simp) fun B hB => ?_) e he
   obtain rfl := Option.some.inj hB
   exact Nat.le_refl _
 · exact z0z hpure e he
theorem z0b {f : FuncId} {args : List AV} {y : AV} {es : List EN} {i : Nat} {e0 : EN} (hi : es[i]? = some e0) (R : Blkd) (hrow : R.row = true) (hpure : ∀ e ∈ R.elems, ∀ x ∈ e, ∃ p, x = AV.c p) (n n' : Nat) (e e' : Int) (new : List NT)
  (hn : n' = es.length + new.length) (hy : ∀ used h, Sc used h y)
  (hT : ∀ x : Value, ToldM Tryz.prog f args [xW n e, xN (es.set i (e0.wf (.v x)))] [some (xW n' e'), some (xN (es.set i (e0.wf (.v x)) ++ new.map EN.of))] y) :
  ToldM Tryz.prog f args [xW n e, xNF es i e0 1000002 R.len, R] [some (xW n' e'), some (xNF (es ++ new.map EN.of) i e0 1000002 R.len), some R] y := by
 have hlt := (List.getElem?_eq_some_iff.1 hi).1
 refine ToldM.hide (L := [xW n e, xNF es i e0 1000002 R.len]) (L' := [some (xW n' e'), some (xNF (es ++ new.map EN.of) i e0 1000002 R.len)]) R hrow hpure rfl ?_ ?_ ?_
 · intro x _
   have h := hT x
   have hs : es.set i (e0.wf (.v x)) ++ new.map EN.of = (es ++ new.map EN.of).set i (e0.wf (.v x)) := (List.set_append_left i (e0.wf (.v x)) hlt).symm
   rw [hs] at h
   have h1 := hid_xNF es i e0 1000002 R.len x
   have h2 := hid_xNF (es ++ new.map EN.of) i e0 1000002 R.len x
   simp only [List.map_cons, List.map_nil, Option.map_some, List.length_cons, List.length_nil]
   rw [show 1000000 + (0 + 1 + 1) = 1000002 from rfl, j3l _ _ _ _ _ (by decide), j3l _ _ _ _ _ (by decide), h1, h2]
   exact h
 · exact ⟨rfl, rfl, rfl, trivial⟩
 · exact open_scF (by rw [q8w]; omega) R hrow hpure n' e' (by rw [hn, q8w]) y hy

abbrev BV := List NT × Int × Int
structure KidOk (a : List UInt8) (x : JT) (fN : List HN → BV) : Prop where
 told : ∀ es : List EN, es.length ≤ 200 → q1c 35 es 0 [x.av, strV a] (fN (hsE es))
 len : ∀ hs : List HN, hs.length ≤ 200 → hs.length + (fN hs).1.length ≤ 200
 place : ∀ hs : List HN, hs.length ≤ 200 → (fN hs).2.2 = 0 → 0 ≤ (fN hs).2.1 ∧ (fN hs).2.1 < ((hs.length + (fN hs).1.length : Nat) : Int)
def q1z (fN : List HN → BV) (hs : List HN) (e : Int) : BV := if e ≠ 0 then ([], 0, e) else fN hs
theorem stepV_len {a : List UInt8} {x : JT} {fN : List HN → BV} (hk : KidOk a x fN) {hs : List HN} (hl : hs.length ≤ 200) (e : Int) : hs.length + (q1z fN hs e).1.length ≤ 200 := by
 unfold q1z
 split
 · exact hl
 · exact hk.len hs hl
theorem z4o {a : List UInt8} {x : JT} {fN : List HN → BV} (hk : KidOk a x fN) {hs : List HN} (hl : hs.length ≤ 200) {e : Int} (h : (q1z fN hs e).2.2 = 0) : 0 ≤ (q1z fN hs e).2.1 ∧ (q1z fN hs e).2.1 < ((hs.length + (q1z fN hs e).1.length : Nat) : Int) := by
 unfold q1z at *
 split
 · rename_i he
   rw [if_pos he] at h
   exact absurd h he
 · rename_i he
   rw [if_neg he] at h
   exact hk.place hs hl h
theorem j7h (es : List EN) (j : JT) (a : List UInt8) (e : Int) (he : e ≠ 0) : q1c 35 es e [j.av, strV a] ([], 0, e) := by
 unfold q1c strV at *
 have hq : (e != 0) = true := by simpa using he
 simp only [List.map_nil, List.append_nil]
 rw [JT.av_eq, q03]
 generalize j.kd = j1 at *
 generalize j.num = j2 at *
 generalize j.txt = j3 at *
 generalize j.its = j4 at *
 generalize j.keys = j5 at *
 unfold xW xN at *
 refine VC.toldXF (And.intro @q0a @q0i) j16 [] Tryz.func35 rfl Tryz.ntmps35 fun hb hbL => ?_
 clear hb hbL
 refine q06 (And.intro @q0a (And.intro @q0b hq)) ?_
 refine q09 (@q0b) Tryz.results35 ?_
 exact .c _
theorem KidOk.step {a : List UInt8} {x : JT} {fN : List HN → BV} (hk : KidOk a x fN) (es : List EN) (hl : es.length ≤ 200) (e : Int) : q1c 35 es e [x.av, strV a] (q1z fN (hsE es) e) := by
 unfold q1z
 by_cases he : e = 0
 · subst he
   rw [if_neg (by simp)]
   exact hk.told es hl
 · rw [if_pos he]
   exact j7h es x a e he
def q2x (fN : JT → List HN → BV) (hs : List HN) : List JT → List Int → List NT → Int → List Int × List NT × Int × Bool
 | [], ks, new, e => (ks, new, e, true)
 | x :: xs, ks, new, e =>
   if (q1z (fN x) (hs ++ new.map q0k) e).2.2 ≠ 0 then (ks, new ++ (q1z (fN x) (hs ++ new.map q0k) e).1, (q1z (fN x) (hs ++ new.map q0k) e).2.2, false)
   else q2x fN hs xs (ks ++ [(q1z (fN x) (hs ++ new.map q0k) e).2.1]) (new ++ (q1z (fN x) (hs ++ new.map q0k) e).1)
    (if q4q (hs ++ (new ++ (q1z (fN x) (hs ++ new.map q0k) e).1).map q0k) ks (q1z (fN x) (hs ++ new.map q0k) e).2.1 = true then 0 else 34)
def q4o (fN : JT → List HN → BV) (hs : List HN) (l : List JT) : BV :=
 if l.length < 1 ∨ 10 < l.length then ([], 0, 34) else if 200 ≤ hs.length then ([], 0, 3)
 else ({ q1d 13 with branches := (q2x fN (hs ++ [(13, [])]) l [] [] 0).1 } :: (q2x fN (hs ++ [(13, [])]) l [] [] 0).2.1,
  if (q2x fN (hs ++ [(13, [])]) l [] [] 0).2.2.2 = true then (hs.length : Int) else 0, (q2x fN (hs ++ [(13, [])]) l [] [] 0).2.2.1)
def uN0 : EN := ⟨q1d 13, .sl 9 [], .v (.slice none 0 0)⟩
def uE (es : List EN) (new : List NT) : List EN := es ++ uN0 :: new.map EN.of
theorem q6j (es : List EN) (new : List NT) : (uE es new).length = es.length + 1 + new.length := by simp [uE]; omega
theorem uE_at (es : List EN) (new : List NT) : (uE es new)[es.length]? = some uN0 := by
 unfold uE
 rw [List.getElem?_append_right (Nat.le_refl _), Nat.sub_self]
 rfl
theorem uE_app (es : List EN) (new m : List NT) : uE es new ++ m.map EN.of = uE es (new ++ m) := by simp [uE]
theorem uE_hs (es : List EN) (new : List NT) : hsE (uE es new) = hsE es ++ [(13, [])] ++ new.map q0k := by
 unfold uE hsE
 rw [List.map_append, List.map_cons, List.map_map, List.append_assoc]
 rfl
theorem uC_eq (r m : Nat) : opB uN0 r m = [.c (.v (.int .i64 13)), .c (.v (.string (str []))), .c (.sl 1 []), .c (.sl 9 []), .c (.sl 1 []), .c (.v (.bool false)), .c (.v (.string (str []))), .c (.v (.int .i64 0)), .c (.v (.int .i64 0)), .row r m] := rfl
theorem uE_done (es : List EN) (new : List NT) (ks : List Int) : (rA EN.cells (uE es new)).set es.length [.c (.v (.int .i64 13)), .c (.v (.string (str []))), .c (.sl 1 []), .c (.sl 9 []), .c (.sl 1 []), .c (.v (.bool false)), .c (.v (.string (str []))), .c (.v (.int .i64 0)), .c (.v (.int .i64 0)), .c (.sl 1 (ks.map iPV))] = rA EN.cells (es ++ ({ q1d 13 with branches := ks } :: new).map EN.of) := by
 have h := q7i (f := EN.cells) (uE es new) es.length (EN.of { q1d 13 with branches := ks })
 unfold uE at h ⊢
 rw [List.set_append_right _ _ (Nat.le_refl _), Nat.sub_self, List.set_cons_zero] at h
 exact h
theorem z2k (es : List EN) (hl : es.length < 200) : ToldM Tryz.prog 117 [.ref 1000000 1 0 0, .agg [.c (.v (.int .i64 13)), .c (.v (.string ⟨#[]⟩)), .c (.v (.slice none 0 0)), .c (.v (.slice none 0 0)), .c (.v (.slice none 0 0)), .c (.v (.bool false)), .c (.v (.string ⟨#[]⟩)), .c (.v (.int .i64 0)), .c (.v (.int .i64 0)), .c (.v (.slice none 0 0))]] [xW es.length 0, xN es]
  [some (xW (es.length + 1) 0), some (xN (uE es []))] (.c (.v (.int .i64 (es.length : Int)))) := by
 have h := j2x es (by omega) 0 uN0
 rw [show decide (200 ≤ es.length) = false by simp; omega, show fl 0 false 3 = 0 from rfl, if_pos rfl, if_pos rfl, List.length_append] at h
 refine ToldM.co h (.cons (.same _) (.cons ?_ .nil))
 rw [EN.av_eq, q43]
 exact Co.aggL (.cons (.same _) (.cons (.same _) (.cons (.nil 1) (.cons (.nil 9) (.cons (.nil 1) (.cons (.same _) (.cons (.same _) (.cons (.same _) (.cons (.same _) (.cons (.same _) .nil))))))))))

theorem ixfF_told {g : FuncId} {fs cs : List AV} (hp : AV.pureL fs = true) (hp' : AV.pureL cs = true) (l : List (FT)) (p : FT → Bool) (hk : ∀ x ∈ l, Told Tryz.prog g (fs ++ ([x.av] ++ cs)) (.c (.v (.bool (p x))))) :
  Told Tryz.prog 270 [.c (.sl 9 (l.map FT.cells)), .fn (.func g) fs cs] (.c (.v (.int .i64 (idxP p l)))) := by
 refine VC.told ent_270 Tryz.func270 rfl Tryz.ntmps270 (by simp) (by simp [AV.pureB, AV.pureL, hp, hp']) rfl fun hb => ?_
 simp only [List.mem_cons, List.not_mem_nil, or_false, forall_eq_or_imp, forall_eq, q5b, q5h, List.length_map] at hb
 have h1 := hb.1.1
 clear hb
 refine q0c ?_
 refine VC.loop (ι := {i : Nat // i ≤ l.length ∧ ∀ j x, j < i → l[j]? = some x → p x = false}) (fun i => [(0, .c (.sl 9 (l.map FT.cells))), (1, .fn (.func g) fs cs), (7, .c (.v (.int .i64 l.length))), (8, .c (.v (.int .i64 i.1)))]) (fun _ => []) 0 (fun i => l.length - i.1) ⟨0, Nat.zero_le _, by intro j x hj; omega⟩ ?_ ?_
 · simp only [q22 hp, q22 hp', Weak, eq_self, q0x, q0r, sc_c, q0t, q0u, q0v, q0q, q0s, ScL, q0w, List.forall_mem_map, go_sem, Int.reduceBEq, Int.reduceLE, Int.reduceLT, Int.reduceNeg, Nat.reduceAdd, Nat.reduceEqDiff, Nat.reduceLT, Nat.reduceLeDiff, Nat.reduceMul, Nat.reduceSub, reduceCtorEq, ↓reduceIte]
   all_goals rfl
 rintro ⟨i, hi, ht⟩
 refine q0c ?_
 refine VC.cond (by rfl) (by trivial) (fun hc => ?_) (fun hc => ?_)
 · simp only [decide_eq_true_eq] at hc
   obtain ⟨x, hx⟩ : ∃ x, l[i]? = some x := ⟨l[i]'(by omega), List.getElem?_eq_getElem _⟩
   have hw : IntKind.i64.wrap ((i : Int) + 1) = (i : Int) + 1 := q1g (by omega) (by omega)
   have hkx := hk x (List.mem_of_getElem? hx)
   (repeat (first | refine pass ?_ | refine VC.region (by rfl) (by rfl) ?_ | (refine AO.step fun K hK => ?_; simp only [List.getElem?_map, hx, FT.av, j2d, j59, j6a, go_sem, Int.reduceBEq, Int.reduceLE, Int.reduceLT, Int.reduceNeg, Nat.reduceAdd, Nat.reduceEqDiff, Nat.reduceLT, Nat.reduceLeDiff, Nat.reduceMul, Nat.reduceSub, reduceCtorEq, ↓reduceIte]; (first | refine q07 ?_ | refine q0g ?_ | skip); (first | refine hK _ _ _ ?_ | refine ⟨by first | omega | exact ⟨_, rfl, rfl⟩ | exact fun _ => ⟨_, rfl, rfl⟩ | (intro h; simp only [List.getElem?_map, hx, FT.av, j2d, j59, j6a, h, true_and]; omega) | (clear hK; intro h; simp_all <;> omega), hK _ _ _ ?_⟩); clear hK K) | refine VC.draw mixP (by rfl) (by rfl) ?_ | refine ⟨q08 (by kernel_rfl), ?_⟩ | refine BQ.other (by decide) ?_ | refine VC.seq ?_ | refine AO.nil ?_ | refine VC.block ?_))
   ((refine AO.step fun K hK => ?_; simp only [go_sem, Int.reduceBEq, Int.reduceLE, Int.reduceLT, Int.reduceNeg, Nat.reduceAdd, Nat.reduceEqDiff, Nat.reduceLT, Nat.reduceLeDiff, Nat.reduceMul, Nat.reduceSub, reduceCtorEq, ↓reduceIte, FT.av, j2d, j59, j6a, hp, hp', q80, q2q, List.append_assoc]; (first | refine q0g ?_ | skip)); refine .inl ⟨_, hkx, hK _ _ _ ?_⟩; clear hK K)
   refine q0c ?_
   refine VC.cond (by rfl) (by trivial) (fun hpx => ?_) (fun hpx => ?_)
   · have hr := q8n hx hpx ht
     refine q0c ?_
     refine retX Tryz.results270 ?_
     rw [hr]
     exact .c _
   · refine q0d (hw) ?_
     refine .next ⟨i + 1, by omega, fun j y hj hy => ?_⟩ ?_ (by simp only []; omega)
     · rcases Nat.lt_or_ge j i with h | h
       · exact ht j y h hy
       · obtain rfl : j = i := by omega
         rw [hx] at hy
         obtain rfl := Option.some.inj hy
         exact hpx
     simp only [q22 hp, q22 hp', Weak, eq_self, q0x, q0r, sc_c, q0t, q0u, q0v, q0q, q0s, ScL, q0w, List.forall_mem_map, go_sem, Int.reduceBEq, Int.reduceLE, Int.reduceLT, Int.reduceNeg, Nat.reduceAdd, Nat.reduceEqDiff, Nat.reduceLT, Nat.reduceLeDiff, Nat.reduceMul, Nat.reduceSub, reduceCtorEq, ↓reduceIte]
     exact cI (by omega)
 · simp only [decide_eq_false_iff_not] at hc
   obtain rfl : i = l.length := by omega
   have hr := q8o ht
   refine q0c ?_
   refine retX Tryz.results270 ?_
   rw [hr]
   exact .c _
theorem cnfF_told {g : FuncId} {fs cs : List AV} (hp : AV.pureL fs = true) (hp' : AV.pureL cs = true) (l : List (FT)) (p : FT → Bool) (hk : ∀ x ∈ l, Told Tryz.prog g (fs ++ ([x.av] ++ cs)) (.c (.v (.bool (p x))))) :
  Told Tryz.prog 223 [.c (.sl 9 (l.map FT.cells)), .fn (.func g) fs cs] (.c (.v (.bool (l.any p)))) := by
 have hi := ixfF_told hp hp' l p hk
 refine VC.told ent_223 Tryz.func223 rfl Tryz.ntmps223 (by simp) (by simp [AV.pureB, AV.pureL, hp, hp']) rfl fun hb => ?_
 clear hb
 refine q0c ?_
 refine q5p (And.intro hp hp') (hi) ?_
 refine q0c ?_
 refine retX Tryz.results223 ?_
 exact q2m (by rw [j2b])

def xFs (l : List FT) : Blkd := ⟨true, 72, 9, rA FT.cells l⟩
theorem xFs_len (l : List FT) : (xFs l).len = l.length := by unfold xFs Blkd.len; rw [q0a]
theorem z14 (l : List FT) : ∀ e ∈ (xFs l).elems, ∀ x ∈ e, ∃ p, x = AV.c p := fun e he x hx => by
 obtain ⟨b, _, rfl⟩ := List.mem_map.1 he
 obtain ⟨p, _, rfl⟩ := List.mem_map.1 hx
 exact ⟨p, rfl⟩
def q68 (e : Int) (x : JT) (fs : List FT) : Int :=
 q3t (fl (fl (fl (fl e (x.kd != 6) 30) ((gt x q05).kd != 4) 30) (!q1b (gt x q05).txt) 31) (fs.any fun o => o.name == (gt x q05).txt) 36) x q1b
def q8h (x : JT) : FT := ⟨(gt x q05).txt, q40 x id, 0, (jget x q17).isSome, gt x q17⟩
theorem z3f (o : FT) (name : List UInt8) (c : List PV) (hc : c.length = 8) : Told Tryz.prog 224 [o.av, .pp (.v (.string (str name)) :: c)] (.c (.v (.bool (o.name == name)))) := by
 obtain ⟨c1, c2, c3, c4, c5, c6, c7, c8, rfl⟩ : ∃ c1 c2 c3 c4 c5 c6 c7 c8, c = [c1, c2, c3, c4, c5, c6, c7, c8] := by
  match c, hc with
  | [c1, c2, c3, c4, c5, c6, c7, c8], _ => exact ⟨_, _, _, _, _, _, _, _, rfl⟩
 obtain ⟨V, hV⟩ : ∃ V, V = (o.name == name) := ⟨_, rfl⟩
 rw [← hV]
 replace hV := Lib.hid hV
 rw [FT.av_eq, FT.cells, q03]
 refine VC.toldP ent_224 Tryz.func224 rfl Tryz.ntmps224 fun hb => ?_
 clear hb
 refine q0d (@q3i) ?_
 refine retX Tryz.results224 ?_
 rw [hV.out]
 exact .c _
theorem fOpen {f : FuncId} {args : List AV} {y : AV} {es : List EN} {i : Nat} {e0 : EN} (hi : es[i]? = some e0) (fs : List FT) (e e' : Int) (hy : ∀ used h, Sc used h y)
  (hT : ∀ E : List EN, E.length = es.length → ToldM Tryz.prog f args [xW E.length e, xN E] [some (xW E.length e'), some (xN E)] y) :
  ToldM Tryz.prog f args [xW es.length e, xNF es i e0 1000002 fs.length, xFs fs] [some (xW es.length e'), some (xNF es i e0 1000002 fs.length), some (xFs fs)] y := by
 have h := z0b hi (xFs fs) rfl (z14 fs) (f := f) (args := args) (y := y) es.length es.length e e' [] (by simp) hy (fun x => by
  have h1 := hT (es.set i (e0.wf (.v x))) List.length_set
  rw [List.length_set] at h1
  rw [List.map_nil, List.append_nil]
  exact h1)
 rw [List.map_nil, List.append_nil, xFs_len] at h
 exact h
theorem z2h {es : List EN} {i0 : Nat} {e0 : EN} (hi0 : es[i0]? = some e0) (fs : List FT) (hfs : fs.length ≤ 1000000) (e : Int) (x : JT) (hn : (gt x q05).txt.length ≤ 100000000) (ha : (gt x q1f).its.length ≤ 1000000) (ht : ∀ y ∈ (gt x q1f).its, y.txt.length ≤ 100000000) :
  ToldM Tryz.prog 167 [.ref 1000000 1 0 0, x.av, .row 1000002 fs.length] [xW es.length e, xNF es i0 e0 1000002 fs.length, xFs fs] [some (xW es.length (q68 e x fs)), some (xNF es i0 e0 1000002 fs.length), some (xFs fs)] (q8h x).av := by
 have hlt := (List.getElem?_eq_some_iff.1 hi0).1
 have hsc : ∀ {used : Nat → Prop} {h : Nat → Option Blkd}, _ := fun {used} {h} => q6g (used := used) (h := h) hlt (opF e0 1000002 fs.length)
 have hF1 := fOpen hi0 fs e (fl e (x.kd != 6) 30) (f := 36) (args := [.ref 1000000 1 0 0, .c (.v (.bool (x.kd != 6))), .c (.v (.int .i64 30))]) (y := .tup []) (fun _ _ => .tup (by simp)) (fun E _ => q15 E E.length rfl e 30 (x.kd != 6))
 unfold q68 q8h
 generalize fl e (x.kd != 6) 30 = e1 at *
 have hT := fOpen hi0 fs e1 (fl e1 ((gt x q05).kd != 4) 30) (f := 121) (args := [.ref 1000000 1 0 0, x.av, .c (.v (.string (str q05)))]) (y := .c (.v (.string (str (gt x q05).txt)))) (fun _ _ => .c) (fun E _ => q70 E E.length rfl e1 x q05)
 generalize fl e1 ((gt x q05).kd != 4) 30 = e2 at *
 have hS := q7l (gt x q05).txt (by omega)
 have hF3 := fOpen hi0 fs e2 (fl e2 (!q1b (gt x q05).txt) 31) (f := 36) (args := [.ref 1000000 1 0 0, .c (.v (.bool (!q1b (gt x q05).txt))), .c (.v (.int .i64 31))]) (y := .tup []) (fun _ _ => .tup (by simp)) (fun E _ => q15 E E.length rfl e2 31 (!q1b (gt x q05).txt))
 generalize fl e2 (!q1b (gt x q05).txt) 31 = e3 at *
 have hC := fun c (hc : c.length = 8) => cnfF_told (g := 224) (fs := []) (cs := [.pp (.v (.string (str (gt x q05).txt)) :: c)]) rfl rfl fs (fun o => o.name == (gt x q05).txt) fun o _ => z3f o (gt x q05).txt c hc
 have hF4 := fOpen hi0 fs e3 (fl e3 (fs.any fun o => o.name == (gt x q05).txt) 36) (f := 36) (args := [.ref 1000000 1 0 0, .c (.v (.bool (fs.any fun o => o.name == (gt x q05).txt))), .c (.v (.int .i64 36))]) (y := .tup []) (fun _ _ => .tup (by simp)) (fun E _ => q15 E E.length rfl e3 36 (fs.any fun o => o.name == (gt x q05).txt))
 generalize fl e3 (fs.any fun o => o.name == (gt x q05).txt) 36 = e4 at *
 generalize (fs.any fun o => o.name == (gt x q05).txt) = cn at *
 generalize q1b (gt x q05).txt = sn at *
 have hA := fOpen hi0 fs e4 (q3t e4 x q1b) (f := 169) (args := [.ref 1000000 1 0 0, x.av, .fn (.func 225) [] []]) (y := .c (.sl 1 ((q40 x id).map sPV))) (fun _ _ => .c) (fun E _ => z2d E E.length rfl e4 x ha rfl rfl id q1b fun y hy => z3g y.txt (ht y hy))
 generalize q3t e4 x q1b = e5 at *
 generalize q40 x id = al at *
 have hG := q4j x q17
 rw [show (jget x q17).getD zJ = gt x q17 from rfl] at hG
 generalize (jget x q17).isSome = bd at *
 generalize (gt x q05).txt = nm at *
 generalize gt x q17 = w at *
 clear ha ht hn
 rw [JT.av_eq w, q03 w] at hG
 rw [FT.av_eq, FT.cells, q03 w]
 generalize w.kd = w1 at *
 generalize w.num = w2 at *
 generalize w.txt = w3 at *
 generalize w.its = w4 at *
 generalize w.keys = w5 at *
 rw [JT.av_eq, q03] at hT hA hG ⊢
 generalize x.kd = x1 at *
 generalize x.num = x2 at *
 generalize x.txt = x3 at *
 generalize x.its = x4 at *
 generalize x.keys = x5 at *
 rw [q05, q33 [110, 97, 109, 101]] at hT
 rw [q17, q33 [100, 101, 102, 97, 117, 108, 116]] at hG
 unfold xW xNF xFs at *
 refine VC.toldM ent_167 [] Tryz.func167 rfl Tryz.ntmps167 (by simp) (by simp only [ q0a, q0i, hsc, q8x, List.length_set, ScM, zOk, inL, eq_self, q0x, q0r, sc_c, q0t, q0u, q0v, q0q, q2j, q0s, ScL, q0w, List.forall_mem_map, Nat.le_refl, go_sem, simprocAttr]) (by simp only [ q0a, q0i, hsc, q8x, List.length_set, ScM, zOk, inL, eq_self, q0x, q0r, sc_c, q0t, q0u, q0v, q0q, q2j, q0s, ScL, q0w, List.forall_mem_map, Nat.le_refl, go_sem, simprocAttr]) (by simp only [ q0a, q0i, hsc, q8x, List.length_set, ScM, zOk, inL, eq_self, q0x, q0r, sc_c, q0t, q0u, q0v, q0q, q2j, q0s, ScL, q0w, List.forall_mem_map, Nat.le_refl, go_sem, simprocAttr]) (by simp only [ q0a, q0i, hsc, q8x, List.length_set, ScM, zOk, inL, eq_self, q0x, q0r, sc_c, q0t, q0u, q0v, q0q, q2j, q0s, ScL, q0w, List.forall_mem_map, Nat.le_refl, go_sem, simprocAttr]) (by simp) fun hb hbL => ?_
 clear hb hbL
 (repeat (first | refine pass ?_ | refine VC.region (by rfl) (by rfl) ?_ | (refine AO.step fun K hK => ?_; simp only [List.length_set, q0a, go_sem, Int.reduceBEq, Int.reduceLE, Int.reduceLT, Int.reduceNeg, Nat.reduceAdd, Nat.reduceEqDiff, Nat.reduceLT, Nat.reduceLeDiff, Nat.reduceMul, Nat.reduceSub, reduceCtorEq, ↓reduceIte]; (first | refine q07 ?_ | refine q0g ?_ | skip); (first | refine hK _ _ _ ?_ | refine ⟨by first | omega | exact ⟨_, rfl, rfl⟩ | exact fun _ => ⟨_, rfl, rfl⟩ | (intro h; simp only [List.length_set, q0a, h, true_and]; omega) | (clear hK; intro h; simp_all <;> omega), hK _ _ _ ?_⟩); clear hK K) | refine VC.draw mixP (by rfl) (by rfl) ?_ | refine ⟨q08 (by kernel_rfl), ?_⟩ | refine BQ.other (by decide) ?_ | refine VC.seq ?_ | refine AO.nil ?_ | refine VC.block ?_))
 ((refine AO.step fun K hK => ?_; simp only [go_sem, Int.reduceBEq, Int.reduceLE, Int.reduceLT, Int.reduceNeg, Nat.reduceAdd, Nat.reduceEqDiff, Nat.reduceLT, Nat.reduceLeDiff, Nat.reduceMul, Nat.reduceSub, reduceCtorEq, ↓reduceIte, q0a, q0b, q0f, q02, List.length_set]; (first | refine q0g ?_ | skip)); refine .inr (.inr (.inl ⟨?vy1, [1000000, 1000001, 1000002], ?va1, ?vl1, ?vm1, ?cond1, ?cont1⟩)); (case cond1 => ((repeat' apply And.intro) <;> (try ((with_reducible show ToldM _ _ _ _ _ _); exact hF1))); (all_goals first | trivial | (simp only [q0a, q0b, q0f, q02, List.length_set, go_sem, simprocAttr]; done) | (simp; done) | rfl)); (first | refine hK _ _ _ ?_ | (simp only [q0a, q0b, q0f, q02, List.length_set, go_sem, simprocAttr]; first | refine hK _ _ _ ?_ | refine ⟨rfl, hK _ _ _ ?_⟩)); clear hK K)
 (repeat (first | refine pass ?_ | refine VC.region (by rfl) (by rfl) ?_ | (refine AO.step fun K hK => ?_; simp only [List.length_set, q0a, q0b, q0f, q02, go_sem, Int.reduceBEq, Int.reduceLE, Int.reduceLT, Int.reduceNeg, Nat.reduceAdd, Nat.reduceEqDiff, Nat.reduceLT, Nat.reduceLeDiff, Nat.reduceMul, Nat.reduceSub, reduceCtorEq, ↓reduceIte]; (first | refine q07 ?_ | refine q0g ?_ | skip); (first | refine hK _ _ _ ?_ | refine ⟨by first | omega | exact ⟨_, rfl, rfl⟩ | exact fun _ => ⟨_, rfl, rfl⟩ | (intro h; simp only [List.length_set, q0a, q0b, q0f, q02, h, true_and]; omega) | (clear hK; intro h; simp_all <;> omega), hK _ _ _ ?_⟩); clear hK K) | refine VC.draw mixP (by rfl) (by rfl) ?_ | refine ⟨q08 (by kernel_rfl), ?_⟩ | refine BQ.other (by decide) ?_ | refine VC.seq ?_ | refine AO.nil ?_ | refine VC.block ?_))
 ((refine AO.step fun K hK => ?_; simp only [go_sem, Int.reduceBEq, Int.reduceLE, Int.reduceLT, Int.reduceNeg, Nat.reduceAdd, Nat.reduceEqDiff, Nat.reduceLT, Nat.reduceLeDiff, Nat.reduceMul, Nat.reduceSub, reduceCtorEq, ↓reduceIte, q0a, q0b, q0f, q02, List.length_set]; (first | refine q0g ?_ | skip)); refine .inr (.inr (.inl ⟨?vy2, [1000000, 1000001, 1000002], ?va2, ?vl2, ?vm2, ?cond2, ?cont2⟩)); (case cond2 => ((repeat' apply And.intro) <;> (try ((with_reducible show ToldM _ _ _ _ _ _); exact hT))); (all_goals first | trivial | (simp only [q0a, q0b, q0f, q02, List.length_set, go_sem, simprocAttr]; done) | (simp; done) | rfl)); (first | refine hK _ _ _ ?_ | (simp only [q0a, q0b, q0f, q02, List.length_set, go_sem, simprocAttr]; first | refine hK _ _ _ ?_ | refine ⟨rfl, hK _ _ _ ?_⟩)); clear hK K)
 (repeat (first | refine pass ?_ | refine VC.region (by rfl) (by rfl) ?_ | (refine AO.step fun K hK => ?_; simp only [List.length_set, q0a, q0b, q0f, q02, go_sem, Int.reduceBEq, Int.reduceLE, Int.reduceLT, Int.reduceNeg, Nat.reduceAdd, Nat.reduceEqDiff, Nat.reduceLT, Nat.reduceLeDiff, Nat.reduceMul, Nat.reduceSub, reduceCtorEq, ↓reduceIte]; (first | refine q07 ?_ | refine q0g ?_ | skip); (first | refine hK _ _ _ ?_ | refine ⟨by first | omega | exact ⟨_, rfl, rfl⟩ | exact fun _ => ⟨_, rfl, rfl⟩ | (intro h; simp only [List.length_set, q0a, q0b, q0f, q02, h, true_and]; omega) | (clear hK; intro h; simp_all <;> omega), hK _ _ _ ?_⟩); clear hK K) | refine VC.draw mixP (by rfl) (by rfl) ?_ | refine ⟨q08 (by kernel_rfl), ?_⟩ | refine BQ.other (by decide) ?_ | refine VC.seq ?_ | refine AO.nil ?_ | refine VC.block ?_))
 refine q0h (hS) ?_
 (repeat (first | refine pass ?_ | refine VC.region (by rfl) (by rfl) ?_ | (refine AO.step fun K hK => ?_; simp only [List.length_set, q0a, q0b, q0f, q02, go_sem, Int.reduceBEq, Int.reduceLE, Int.reduceLT, Int.reduceNeg, Nat.reduceAdd, Nat.reduceEqDiff, Nat.reduceLT, Nat.reduceLeDiff, Nat.reduceMul, Nat.reduceSub, reduceCtorEq, ↓reduceIte]; (first | refine q07 ?_ | refine q0g ?_ | skip); (first | refine hK _ _ _ ?_ | refine ⟨by first | omega | exact ⟨_, rfl, rfl⟩ | exact fun _ => ⟨_, rfl, rfl⟩ | (intro h; simp only [List.length_set, q0a, q0b, q0f, q02, h, true_and]; omega) | (clear hK; intro h; simp_all <;> omega), hK _ _ _ ?_⟩); clear hK K) | refine VC.draw mixP (by rfl) (by rfl) ?_ | refine ⟨q08 (by kernel_rfl), ?_⟩ | refine BQ.other (by decide) ?_ | refine VC.seq ?_ | refine AO.nil ?_ | refine VC.block ?_))
 ((refine AO.step fun K hK => ?_; simp only [go_sem, Int.reduceBEq, Int.reduceLE, Int.reduceLT, Int.reduceNeg, Nat.reduceAdd, Nat.reduceEqDiff, Nat.reduceLT, Nat.reduceLeDiff, Nat.reduceMul, Nat.reduceSub, reduceCtorEq, ↓reduceIte, q0a, q0b, q0f, q02, List.length_set]; (first | refine q0g ?_ | skip)); refine .inr (.inr (.inl ⟨?vy3, [1000000, 1000001, 1000002], ?va3, ?vl3, ?vm3, ?cond3, ?cont3⟩)); (case cond3 => ((repeat' apply And.intro) <;> (try ((with_reducible show ToldM _ _ _ _ _ _); exact hF3))); (all_goals first | trivial | (simp only [q0a, q0b, q0f, q02, List.length_set, go_sem, simprocAttr]; done) | (simp; done) | rfl)); (first | refine hK _ _ _ ?_ | (simp only [q0a, q0b, q0f, q02, List.length_set, go_sem, simprocAttr]; first | refine hK _ _ _ ?_ | refine ⟨rfl, hK _ _ _ ?_⟩)); clear hK K)
 (repeat (first | refine pass ?_ | refine VC.region (by rfl) (by rfl) ?_ | (refine AO.step fun K hK => ?_; simp only [List.length_set, q0a, q0b, q0f, q02, go_sem, Int.reduceBEq, Int.reduceLE, Int.reduceLT, Int.reduceNeg, Nat.reduceAdd, Nat.reduceEqDiff, Nat.reduceLT, Nat.reduceLeDiff, Nat.reduceMul, Nat.reduceSub, reduceCtorEq, ↓reduceIte]; (first | refine q07 ?_ | refine q0g ?_ | skip); (first | refine hK _ _ _ ?_ | refine ⟨by first | omega | exact ⟨_, rfl, rfl⟩ | exact fun _ => ⟨_, rfl, rfl⟩ | (intro h; simp only [List.length_set, q0a, q0b, q0f, q02, h, true_and]; omega) | (clear hK; intro h; simp_all <;> omega), hK _ _ _ ?_⟩); clear hK K) | refine VC.draw mixP (by rfl) (by rfl) ?_ | refine ⟨q08 (by kernel_rfl), ?_⟩ | refine BQ.other (by decide) ?_ | refine VC.seq ?_ | refine AO.nil ?_ | refine VC.block ?_))
 (refine AO.step fun K hK => ?_; simp only [go_sem, Int.reduceBEq, Int.reduceLE, Int.reduceLT, Int.reduceNeg, Nat.reduceAdd, Nat.reduceEqDiff, Nat.reduceLT, Nat.reduceLeDiff, Nat.reduceMul, Nat.reduceSub, reduceCtorEq, ↓reduceIte]; (first | refine q0g ?_ | skip))
 refine .inr (.inl ⟨_, [.c (.sl 9 (fs.map FT.cells)), .fn (.func 224) [] [.pp [.v (.string (str nm)), .v (.slice none 0 0), .v (.int .i64 0), .v (.bool false), .v (.int .i64 0), .v (.int .i64 0), .v (.string ⟨#[]⟩), .v (.slice none 0 0), .v (.slice none 0 0)]]], [1000002, 88], ⟨by rfl, by rfl, fun k x z h5 h6 => ?_, by rfl, hC _ rfl⟩, hK _ _ _ ?_⟩)
 · match k with
   | 0 =>
     obtain rfl := Option.some.inj h5
     obtain rfl := Option.some.inj h6
     exact View.row (B := ⟨true, 72, 9, rA FT.cells fs⟩) (es := fs.map FT.cells) (by simp [q0b]) rfl (q0a _ _) (q4v _ _)
   | 1 =>
     obtain rfl := Option.some.inj h5
     obtain rfl := Option.some.inj h6
     refine .fn rfl (by simp) rfl fun k x z h7 h8 => ?_
     match k with
     | 0 =>
       obtain rfl := Option.some.inj h7
       obtain rfl := Option.some.inj h8
       exact View.ref (es := [.v (.string (str nm)), .v (.slice none 0 0), .v (.int .i64 0), .v (.bool false), .v (.int .i64 0), .v (.int .i64 0), .v (.string ⟨#[]⟩), .v (.slice none 0 0), .v (.slice none 0 0)]) rfl rfl rfl rfl
     | k + 1 => simp at h7
   | k + 2 => simp at h5
 clear hK K
 (repeat (first | refine pass ?_ | refine VC.region (by rfl) (by rfl) ?_ | (refine AO.step fun K hK => ?_; simp only [List.length_set, q0a, q0b, q0f, q02, go_sem, Int.reduceBEq, Int.reduceLE, Int.reduceLT, Int.reduceNeg, Nat.reduceAdd, Nat.reduceEqDiff, Nat.reduceLT, Nat.reduceLeDiff, Nat.reduceMul, Nat.reduceSub, reduceCtorEq, ↓reduceIte]; (first | refine q07 ?_ | refine q0g ?_ | skip); (first | refine hK _ _ _ ?_ | refine ⟨by first | omega | exact ⟨_, rfl, rfl⟩ | exact fun _ => ⟨_, rfl, rfl⟩ | (intro h; simp only [List.length_set, q0a, q0b, q0f, q02, h, true_and]; omega) | (clear hK; intro h; simp_all <;> omega), hK _ _ _ ?_⟩); clear hK K) | refine VC.draw mixP (by rfl) (by rfl) ?_ | refine ⟨q08 (by kernel_rfl), ?_⟩ | refine BQ.other (by decide) ?_ | refine VC.seq ?_ | refine AO.nil ?_ | refine VC.block ?_))
 ((refine AO.step fun K hK => ?_; simp only [go_sem, Int.reduceBEq, Int.reduceLE, Int.reduceLT, Int.reduceNeg, Nat.reduceAdd, Nat.reduceEqDiff, Nat.reduceLT, Nat.reduceLeDiff, Nat.reduceMul, Nat.reduceSub, reduceCtorEq, ↓reduceIte, q0a, q0b, q0f, q02, List.length_set]; (first | refine q0g ?_ | skip)); refine .inr (.inr (.inl ⟨?vy4, [1000000, 1000001, 1000002], ?va4, ?vl4, ?vm4, ?cond4, ?cont4⟩)); (case cond4 => ((repeat' apply And.intro) <;> (try ((with_reducible show ToldM _ _ _ _ _ _); exact hF4))); (all_goals first | trivial | (simp only [q0a, q0b, q0f, q02, List.length_set, go_sem, simprocAttr]; done) | (simp; done) | rfl)); (first | refine hK _ _ _ ?_ | (simp only [q0a, q0b, q0f, q02, List.length_set, go_sem, simprocAttr]; first | refine hK _ _ _ ?_ | refine ⟨rfl, hK _ _ _ ?_⟩)); clear hK K)
 (repeat (first | refine pass ?_ | refine VC.region (by rfl) (by rfl) ?_ | (refine AO.step fun K hK => ?_; simp only [List.length_set, q0a, q0b, q0f, q02, go_sem, Int.reduceBEq, Int.reduceLE, Int.reduceLT, Int.reduceNeg, Nat.reduceAdd, Nat.reduceEqDiff, Nat.reduceLT, Nat.reduceLeDiff, Nat.reduceMul, Nat.reduceSub, reduceCtorEq, ↓reduceIte]; (first | refine q07 ?_ | refine q0g ?_ | skip); (first | refine hK _ _ _ ?_ | refine ⟨by first | omega | exact ⟨_, rfl, rfl⟩ | exact fun _ => ⟨_, rfl, rfl⟩ | (intro h; simp only [List.length_set, q0a, q0b, q0f, q02, h, true_and]; omega) | (clear hK; intro h; simp_all <;> omega), hK _ _ _ ?_⟩); clear hK K) | refine VC.draw mixP (by rfl) (by rfl) ?_ | refine ⟨q08 (by kernel_rfl), ?_⟩ | refine BQ.other (by decide) ?_ | refine VC.seq ?_ | refine AO.nil ?_ | refine VC.block ?_))
 ((refine AO.step fun K hK => ?_; simp only [go_sem, Int.reduceBEq, Int.reduceLE, Int.reduceLT, Int.reduceNeg, Nat.reduceAdd, Nat.reduceEqDiff, Nat.reduceLT, Nat.reduceLeDiff, Nat.reduceMul, Nat.reduceSub, reduceCtorEq, ↓reduceIte, q0a, q0b, q0f, q02, List.length_set]; (first | refine q0g ?_ | skip)); refine .inr (.inr (.inl ⟨?vy5, [1000000, 1000001, 1000002], ?va5, ?vl5, ?vm5, ?cond5, ?cont5⟩)); (case cond5 => ((repeat' apply And.intro) <;> (try ((with_reducible show ToldM _ _ _ _ _ _); exact hA))); (all_goals first | trivial | (simp only [q0a, q0b, q0f, q02, List.length_set, go_sem, simprocAttr]; done) | (simp; done) | rfl)); (first | refine hK _ _ _ ?_ | (simp only [q0a, q0b, q0f, q02, List.length_set, go_sem, simprocAttr]; first | refine hK _ _ _ ?_ | refine ⟨rfl, hK _ _ _ ?_⟩)); clear hK K)
 (repeat (first | refine pass ?_ | refine VC.region (by rfl) (by rfl) ?_ | (refine AO.step fun K hK => ?_; simp only [List.length_set, q0a, q0b, q0f, q02, go_sem, Int.reduceBEq, Int.reduceLE, Int.reduceLT, Int.reduceNeg, Nat.reduceAdd, Nat.reduceEqDiff, Nat.reduceLT, Nat.reduceLeDiff, Nat.reduceMul, Nat.reduceSub, reduceCtorEq, ↓reduceIte]; (first | refine q07 ?_ | refine q0g ?_ | skip); (first | refine hK _ _ _ ?_ | refine ⟨by first | omega | exact ⟨_, rfl, rfl⟩ | exact fun _ => ⟨_, rfl, rfl⟩ | (intro h; simp only [List.length_set, q0a, q0b, q0f, q02, h, true_and]; omega) | (clear hK; intro h; simp_all <;> omega), hK _ _ _ ?_⟩); clear hK K) | refine VC.draw mixP (by rfl) (by rfl) ?_ | refine ⟨q08 (by kernel_rfl), ?_⟩ | refine BQ.other (by decide) ?_ | refine VC.seq ?_ | refine AO.nil ?_ | refine VC.block ?_))
 refine q0h (hG) ?_
 (repeat (first | refine pass ?_ | refine VC.region (by rfl) (by rfl) ?_ | (refine AO.step fun K hK => ?_; simp only [List.length_set, q0a, q0b, q0f, q02, go_sem, Int.reduceBEq, Int.reduceLE, Int.reduceLT, Int.reduceNeg, Nat.reduceAdd, Nat.reduceEqDiff, Nat.reduceLT, Nat.reduceLeDiff, Nat.reduceMul, Nat.reduceSub, reduceCtorEq, ↓reduceIte]; (first | refine q07 ?_ | refine q0g ?_ | skip); (first | refine hK _ _ _ ?_ | refine ⟨by first | omega | exact ⟨_, rfl, rfl⟩ | exact fun _ => ⟨_, rfl, rfl⟩ | (intro h; simp only [List.length_set, q0a, q0b, q0f, q02, h, true_and]; omega) | (clear hK; intro h; simp_all <;> omega), hK _ _ _ ?_⟩); clear hK K) | refine VC.draw mixP (by rfl) (by rfl) ?_ | refine ⟨q08 (by kernel_rfl), ?_⟩ | refine BQ.other (by decide) ?_ | refine VC.seq ?_ | refine AO.nil ?_ | refine VC.block ?_))
 refine q09 (And.intro @q0b (And.intro @q0f @q02)) Tryz.results167 ?_
 exact .aggL (.cons (.c _) (.cons (.c _) (.cons (.c _) (.cons (.c _) (.cons (.c _) (.cons (.c _) (.cons (.c _) (.cons (.c _) (.cons (.c _) .nil)))))))))

def j3j (j : JT) (k : Int) (a : List UInt8) : EN := ⟨q36 j k a, .v (.slice none 0 0), .sl 1 []⟩
theorem j8r (j : JT) (k : Int) (a : List UInt8) : Co (j3j j k a).av (EN.of (q36 j k a)).av := by
 rw [EN.av_eq, EN.av_eq, q43, q8v]
 exact Co.aggL (.cons (.same _) (.cons (.same _) (.cons (.same _) (.cons (.nil 9) (.cons (.same _) (.cons (.same _) (.cons (.same _) (.cons (.same _) (.cons (.same _) (.cons (.same _) .nil))))))))))
theorem z2l (es : List EN) (hl : es.length ≤ 200) (j : JT) (k : Int) (a : List UInt8) (ha : a.length ≤ 100000000) (hx1 : (gt j q05).txt.length ≤ 100000000) (hx2 : (gt j q1t).txt.length ≤ 100000000) (hx3 : (gt j q1f).its.length ≤ 1000000) (hx4 : ∀ x ∈ (gt j q1f).its, x.txt.length ≤ 100000000) (hfl : ((q2a j a).getD []).length ≤ 100000000) :
  ToldM Tryz.prog 124 [.ref 1000000 1 0 0, j.av, .c (.v (.int .i64 k)), .c (.v (.string (str a)))] [xW es.length 0, xN es]
  [some (xW es.length (q35 (hsE es) j a)), some (xN es)] (j3j j k a).av := by
 have hT1 := q70 es es.length rfl 0 j q05
 have hT2 := q70 es es.length rfl (fl 0 ((gt j q05).kd != 4) 30) j q1t
 have hG := q4j j q1t
 have hR := z4c (if (jget j q1t).isSome = true then (gt j q1t).txt else []) a (gt j q05).txt (jget j q1t).isSome (by split; exact hx2; simp) hx1 ha
 have hRe : (if (jget j q1t).isSome = true then (if (jget j q1t).isSome = true then (gt j q1t).txt else []) else a) = (if (jget j q1t).isSome = true then (gt j q1t).txt else a) := by split <;> rfl
 rw [hRe, show q1q (if (jget j q1t).isSome = true then (gt j q1t).txt else a) (gt j q05).txt = q2a j a from rfl] at hR
 have hK := j3n ((q2a j a).getD [])
 have hF1 := q15 es es.length rfl (q6a j) 31 (!(q2a j a).isSome || (q0p ((q2a j a).getD []) : Int) != 0)
 have hFi := j8f es 0 ((q2a j a).getD [])
 rw [show (es.map fun e => q0k e.n) = hsE es from rfl] at hFi
 have hF2 := q15 es es.length rfl (fl (q6a j) (!(q2a j a).isSome || (q0p ((q2a j a).getD []) : Int) != 0) 31) 32 (decide (0 ≤ q1v (hsE es) ((q2a j a).getD [])))
 have hA := z2c es es.length rfl (q6p (hsE es) j a) j hx3 ((q2a j a).getD []) (fun s => (q1q (q2f ((q2a j a).getD [])) s).getD []) (fun s => (q1q (q2f ((q2a j a).getD [])) s).isSome) fun x hx => z3n _ x.txt hfl (hx4 x hx)
 rw [EN.av_eq, q43]
 unfold j3j q36 q35
 rw [show fl (fl (q6a j) (!(q2a j a).isSome || (q0p ((q2a j a).getD []) : Int) != 0) 31) (decide (0 ≤ q1v (hsE es) ((q2a j a).getD []))) 32 = q6p (hsE es) j a from rfl] at hF2
 generalize q3t (q6p (hsE es) j a) j (fun s => (q1q (q2f ((q2a j a).getD [])) s).isSome) = e5 at *
 generalize q40 j (fun s => (q1q (q2f ((q2a j a).getD [])) s).getD []) = al at *
 have hE1 : q6a j = if (jget j q1t).isSome = true then fl (fl 0 ((gt j q05).kd != 4) 30) ((gt j q1t).kd != 4) 30 else fl 0 ((gt j q05).kd != 4) 30 := rfl
 generalize fl (fl 0 ((gt j q05).kd != 4) 30) ((gt j q1t).kd != 4) 30 = t2 at *
 generalize fl 0 ((gt j q05).kd != 4) 30 = t1 at *
 generalize q6p (hsE es) j a = e4 at *
 generalize q6a j = e2 at *
 unfold q6s at hR
 generalize q1v (hsE es) ((q2a j a).getD []) = fi at *
 generalize (q2a j a).getD [] = full at *
 generalize (q2a j a).isSome = ok at *
 rw [show (jget j q1t).getD zJ = gt j q1t from rfl] at hG
 generalize (jget j q1t).isSome = b at *
 generalize (gt j q05).txt = nm at *
 generalize (gt j q1t).txt = sp at *
 generalize gt j q1t = x at *
 clear hRe hx3 hx4 hfl
 rw [JT.av_eq, q03] at hT1 hT2 hG hA ⊢
 rw [JT.av_eq, q03] at hG
 generalize j.kd = j1 at *
 generalize j.num = j2 at *
 generalize j.txt = j3 at *
 generalize j.its = j4 at *
 generalize j.keys = j5 at *
 rw [q05, q33 [110, 97, 109, 101]] at hT1
 rw [q1t, q33 [110, 97, 109, 101, 115, 112, 97, 99, 101]] at hT2 hG
 unfold xW xN at hT1 hT2 hF1 hF2 hA ⊢
 unfold xF at hA
 cases b with
 | true =>
   simp only [if_true] at hE1 hR
   subst hE1
   refine VC.toldXF (And.intro @q0a @q0i) ent_124 [] Tryz.func124 rfl Tryz.ntmps124 fun hb hbL => ?_
   clear hb hbL
   refine q0c ?_
   refine q0n (And.intro @q0a @q0b) [1000000, 1000001] (hT1) ?_
   refine q0d (And.intro @q0a @q0b) ?_
   refine q0h (hG) ?_
   refine q1m ?_
   refine q0n (And.intro @q0a @q0b) [1000000, 1000001] (hT2) ?_
   refine q0d (And.intro @q0a @q0b) ?_
   refine q0h (hR) ?_
   refine q0c ?_
   refine q5q (hK) ?_
   refine q0c ?_
   refine q0n (And.intro @q0a @q0b) [1000000, 1000001] (hF1) ?_
   refine q0d (And.intro @q0a @q0b) ?_
   (refine AO.step fun K hK => ?_; simp only [go_sem, Int.reduceBEq, Int.reduceLE, Int.reduceLT, Int.reduceNeg, Nat.reduceAdd, Nat.reduceEqDiff, Nat.reduceLT, Nat.reduceLeDiff, Nat.reduceMul, Nat.reduceSub, reduceCtorEq, ↓reduceIte]; (first | refine q0g ?_ | skip))
   refine .inr (.inl ⟨_, [.agg [.c (.sl 10 (es.map EN.cells)), .c (.v (.int .i64 0))], .c (.v (.string (str full)))], [1000001], ⟨by rfl, by rfl, fun k x z h5 h6 => ?_, by rfl, hFi⟩, hK _ _ _ ?_⟩)
   · match k with
     | 0 =>
       obtain rfl := Option.some.inj h5
       obtain rfl := Option.some.inj h6
       refine View.agg rfl fun k x z h7 h8 => ?_
       match k with
       | 0 =>
         obtain rfl := Option.some.inj h7
         obtain rfl := Option.some.inj h8
         exact View.row (B := ⟨true, 40, 10, rA EN.cells es⟩) (es := es.map EN.cells) (by simp [q0b]) rfl (q0a _ _) (q4v _ _)
       | 1 =>
         obtain rfl := Option.some.inj h7
         obtain rfl := Option.some.inj h8
         exact .same _
       | k + 2 => simp at h7
     | 1 =>
       obtain rfl := Option.some.inj h5
       obtain rfl := Option.some.inj h6
       exact .same _
     | k + 2 => simp at h5
   clear hK K
   refine q0d (And.intro @q0a @q0b) ?_
   refine q0n (And.intro @q0a @q0b) [1000000, 1000001] (hF2) ?_
   refine q0d (And.intro @q0a @q0b) ?_
   refine AO.stepJw rfl (j4e _ _ _ _ _ _ _ _ [1000000, 1000001, 240] _ _ [false, false, true] rfl (by trivial) rfl ?_ ?_ (by simp) (by simp) ?_ ?_ hA) ?_
   · simp [okx, putd, upd, AV.okb]
   · simp only [q2s, q0a, q0b, go_sem, Int.reduceBEq, Int.reduceLE, Int.reduceLT, Int.reduceNeg, Nat.reduceAdd, Nat.reduceEqDiff, Nat.reduceLT, Nat.reduceLeDiff, Nat.reduceMul, Nat.reduceSub, reduceCtorEq, ↓reduceIte]
   · simp only [q0a, q0b, go_sem, Int.reduceBEq, Int.reduceLE, Int.reduceLT, Int.reduceNeg, Nat.reduceAdd, Nat.reduceEqDiff, Nat.reduceLT, Nat.reduceLeDiff, Nat.reduceMul, Nat.reduceSub, reduceCtorEq, ↓reduceIte]
   · exact ⟨rfl, trivial⟩
   simp only [wrK, wrM, q0a, q0b, go_sem, Int.reduceBEq, Int.reduceLE, Int.reduceLT, Int.reduceNeg, Nat.reduceAdd, Nat.reduceEqDiff, Nat.reduceLT, Nat.reduceLeDiff, Nat.reduceMul, Nat.reduceSub, reduceCtorEq, ↓reduceIte]
   refine q0d (And.intro @q0a @q0b) ?_
   refine q09 (@q0b) Tryz.results124 ?_
   exact .aggL (.cons (.c _) (.cons (.c _) (.cons (.c _) (.cons (.c _) (.cons (.nil 1) (.cons (.c _) (.cons (.c _) (.cons (.c _) (.cons (.c _) (.cons (.nil 1) .nil))))))))))
 | false =>
   simp only [Bool.false_eq_true, if_false] at hE1 hR
   subst hE1
   rw [q33 []] at hR
   refine VC.toldXF (And.intro @q0a @q0i) ent_124 [] Tryz.func124 rfl Tryz.ntmps124 fun hb hbL => ?_
   clear hb hbL
   refine q0c ?_
   refine q0n (And.intro @q0a @q0b) [1000000, 1000001] (hT1) ?_
   refine q0d (And.intro @q0a @q0b) ?_
   refine q0h (hG) ?_
   refine q1m ?_
   refine q0h (hR) ?_
   refine q0c ?_
   refine q5q (hK) ?_
   refine q0c ?_
   refine q0n (And.intro @q0a @q0b) [1000000, 1000001] (hF1) ?_
   refine q0d (And.intro @q0a @q0b) ?_
   (refine AO.step fun K hK => ?_; simp only [go_sem, Int.reduceBEq, Int.reduceLE, Int.reduceLT, Int.reduceNeg, Nat.reduceAdd, Nat.reduceEqDiff, Nat.reduceLT, Nat.reduceLeDiff, Nat.reduceMul, Nat.reduceSub, reduceCtorEq, ↓reduceIte]; (first | refine q0g ?_ | skip))
   refine .inr (.inl ⟨_, [.agg [.c (.sl 10 (es.map EN.cells)), .c (.v (.int .i64 0))], .c (.v (.string (str full)))], [1000001], ⟨by rfl, by rfl, fun k x z h5 h6 => ?_, by rfl, hFi⟩, hK _ _ _ ?_⟩)
   · match k with
     | 0 =>
       obtain rfl := Option.some.inj h5
       obtain rfl := Option.some.inj h6
       refine View.agg rfl fun k x z h7 h8 => ?_
       match k with
       | 0 =>
         obtain rfl := Option.some.inj h7
         obtain rfl := Option.some.inj h8
         exact View.row (B := ⟨true, 40, 10, rA EN.cells es⟩) (es := es.map EN.cells) (by simp [q0b]) rfl (q0a _ _) (q4v _ _)
       | 1 =>
         obtain rfl := Option.some.inj h7
         obtain rfl := Option.some.inj h8
         exact .same _
       | k + 2 => simp at h7
     | 1 =>
       obtain rfl := Option.some.inj h5
       obtain rfl := Option.some.inj h6
       exact .same _
     | k + 2 => simp at h5
   clear hK K
   refine q0d (And.intro @q0a @q0b) ?_
   refine q0n (And.intro @q0a @q0b) [1000000, 1000001] (hF2) ?_
   refine q0d (And.intro @q0a @q0b) ?_
   refine AO.stepJw rfl (j4e _ _ _ _ _ _ _ _ [1000000, 1000001, 208] _ _ [false, false, true] rfl (by trivial) rfl ?_ ?_ (by simp) (by simp) ?_ ?_ hA) ?_
   · simp [okx, putd, upd, AV.okb]
   · simp only [q2s, q0a, q0b, go_sem, Int.reduceBEq, Int.reduceLE, Int.reduceLT, Int.reduceNeg, Nat.reduceAdd, Nat.reduceEqDiff, Nat.reduceLT, Nat.reduceLeDiff, Nat.reduceMul, Nat.reduceSub, reduceCtorEq, ↓reduceIte]
   · simp only [q0a, q0b, go_sem, Int.reduceBEq, Int.reduceLE, Int.reduceLT, Int.reduceNeg, Nat.reduceAdd, Nat.reduceEqDiff, Nat.reduceLT, Nat.reduceLeDiff, Nat.reduceMul, Nat.reduceSub, reduceCtorEq, ↓reduceIte]
   · exact ⟨rfl, trivial⟩
   simp only [wrK, wrM, q0a, q0b, go_sem, Int.reduceBEq, Int.reduceLE, Int.reduceLT, Int.reduceNeg, Nat.reduceAdd, Nat.reduceEqDiff, Nat.reduceLT, Nat.reduceLeDiff, Nat.reduceMul, Nat.reduceSub, reduceCtorEq, ↓reduceIte]
   refine q0d (And.intro @q0a @q0b) ?_
   refine q09 (@q0b) Tryz.results124 ?_
   exact .aggL (.cons (.c _) (.cons (.c _) (.cons (.c _) (.cons (.c _) (.cons (.nil 1) (.cons (.c _) (.cons (.c _) (.cons (.c _) (.cons (.c _) (.cons (.nil 1) .nil))))))))))
/-- An object whose type is a text. -/
theorem z2u (es : List EN) (hl : es.length ≤ 200) (j : JT) (a : List UInt8) (hty : ((gt j q0o).kd != 4) = false) (V : List NT × Int × Int) (H : Int) (nd : Int → EN)
  (hH : ToldM Tryz.prog 124 [.ref 1000000 1 0 0, j.av, intV (q0p (gt j q0o).txt), strV a] [xW es.length 0, xN es] [some (xW es.length H), some (xN es)] (nd (q0p (gt j q0o).txt)).av)
  (h11 : q0p (gt j q0o).txt = 11 → q1c 122 es 0 [j.av, intV 11, strV q7u, strV a] V)
  (h12 : q0p (gt j q0o).txt = 12 → q1c 122 es 0 [j.av, intV 12, strV q7v, strV a] V)
  (h9 : q0p (gt j q0o).txt = 9 → q1c 123 es H [j.av, (nd 9).av] V)
  (h10 : q0p (gt j q0o).txt = 10 → q1c 125 es H [j.av, (nd 10).av] V)
  (h14 : q0p (gt j q0o).txt = 14 → q1c 126 es H [j.av, (nd 14).av] V)
  (hel : q0p (gt j q0o).txt ≠ 11 → q0p (gt j q0o).txt ≠ 12 → q0p (gt j q0o).txt ≠ 9 → q0p (gt j q0o).txt ≠ 10 → q0p (gt j q0o).txt ≠ 14 → q1c 70 es 0 [strV (gt j q0o).txt, strV a] V) :
  q1c 72 es 0 [j.av, strV a] V := by
 unfold q1c strV intV at *
 have hT := q70 es es.length rfl 0 j q0o
 rw [hty, show fl 0 false 30 = 0 from rfl] at hT
 have hK := j3n (gt j q0o).txt
 clear hty
 generalize (gt j q0o).txt = w at *
 obtain ⟨V1, V2, V3⟩ := V
 simp only [] at h11 h12 h9 h10 h14 hel ⊢
 generalize es ++ V1.map EN.of = es' at *
 have hcase : q0p w = 11 ∨ q0p w = 12 ∨ q0p w = 9 ∨ q0p w = 10 ∨ q0p w = 14 ∨ (q0p w ≠ 11 ∧ q0p w ≠ 12 ∧ q0p w ≠ 9 ∧ q0p w ≠ 10 ∧ q0p w ≠ 14) := by omega
 rw [JT.av_eq, q03] at *
 generalize j.kd = j1 at *
 generalize j.num = j2 at *
 generalize j.txt = j3 at *
 generalize j.its = j4 at *
 generalize j.keys = j5 at *
 rw [q0o, q33 [116, 121, 112, 101]] at hT
 rw [q7u, q33 [105, 116, 101, 109, 115]] at h11
 rw [q7v, q33 [118, 97, 108, 117, 101, 115]] at h12
 unfold xW xN at *
 rcases hcase with hk | hk | hk | hk | hk | ⟨q1, q2, q3, q4, q5⟩
 · have hM := h11 hk
   rw [hk] at hK
   clear h11 h12 h9 h10 h14 hel hH
   refine VC.toldXF (And.intro @q0a @q0i) q67 [] Tryz.func72 rfl Tryz.ntmps72 fun hb hbL => ?_
   clear hb hbL
   refine q0c ?_
   refine q0n (And.intro @q0a @q0b) [1000000, 1000001] (hT) ?_
   refine q06 (And.intro @q0a @q0b) ?_
   refine q0h (hK) ?_
   refine q06 (And.intro @q0a @q0b) ?_
   refine q0n (And.intro @q0a @q0b) [1000000, 1000001] (hM) ?_
   refine q0d (And.intro @q0a @q0b) ?_
   refine q09 (@q0b) Tryz.results72 ?_
   exact .c _
 · have hM := h12 hk
   rw [hk] at hK
   clear h11 h12 h9 h10 h14 hel hH
   refine VC.toldXF (And.intro @q0a @q0i) q67 [] Tryz.func72 rfl Tryz.ntmps72 fun hb hbL => ?_
   clear hb hbL
   refine q0c ?_
   refine q0n (And.intro @q0a @q0b) [1000000, 1000001] (hT) ?_
   refine q06 (And.intro @q0a @q0b) ?_
   refine q0h (hK) ?_
   refine q06 (And.intro @q0a @q0b) ?_
   refine q0n (And.intro @q0a @q0b) [1000000, 1000001] (hM) ?_
   refine q0d (And.intro @q0a @q0b) ?_
   refine q09 (@q0b) Tryz.results72 ?_
   exact .c _
 · have hM := h9 hk
   rw [hk] at hK hH
   rw [EN.av_eq, q43] at hM hH
   clear h11 h12 h9 h10 h14 hel
   generalize nd (9 : Nat) = n at *
   refine VC.toldXF (And.intro @q0a @q0i) q67 [] Tryz.func72 rfl Tryz.ntmps72 fun hb hbL => ?_
   clear hb hbL
   refine q0c ?_
   refine q0n (And.intro @q0a @q0b) [1000000, 1000001] (hT) ?_
   refine q06 (And.intro @q0a @q0b) ?_
   refine q0h (hK) ?_
   refine q06 (And.intro @q0a @q0b) ?_
   refine q0n (And.intro @q0a @q0b) [1000000, 1000001] (hH) ?_
   refine q0d (And.intro @q0a @q0b) ?_
   refine q0n (And.intro @q0a @q0b) [1000000, 1000001] (hM) ?_
   refine q0d (And.intro @q0a @q0b) ?_
   refine q09 (@q0b) Tryz.results72 ?_
   exact .c _
 · have hM := h10 hk
   rw [hk] at hK hH
   rw [EN.av_eq, q43] at hM hH
   clear h11 h12 h9 h10 h14 hel
   generalize nd (10 : Nat) = n at *
   refine VC.toldXF (And.intro @q0a @q0i) q67 [] Tryz.func72 rfl Tryz.ntmps72 fun hb hbL => ?_
   clear hb hbL
   refine q0c ?_
   refine q0n (And.intro @q0a @q0b) [1000000, 1000001] (hT) ?_
   refine q06 (And.intro @q0a @q0b) ?_
   refine q0h (hK) ?_
   refine q06 (And.intro @q0a @q0b) ?_
   refine q0n (And.intro @q0a @q0b) [1000000, 1000001] (hH) ?_
   refine q0d (And.intro @q0a @q0b) ?_
   refine q0n (And.intro @q0a @q0b) [1000000, 1000001] (hM) ?_
   refine q0d (And.intro @q0a @q0b) ?_
   refine q09 (@q0b) Tryz.results72 ?_
   exact .c _
 · have hM := h14 hk
   rw [hk] at hK hH
   rw [EN.av_eq, q43] at hM hH
   clear h11 h12 h9 h10 h14 hel
   generalize nd (14 : Nat) = n at *
   refine VC.toldXF (And.intro @q0a @q0i) q67 [] Tryz.func72 rfl Tryz.ntmps72 fun hb hbL => ?_
   clear hb hbL
   refine q0c ?_
   refine q0n (And.intro @q0a @q0b) [1000000, 1000001] (hT) ?_
   refine q06 (And.intro @q0a @q0b) ?_
   refine q0h (hK) ?_
   refine q06 (And.intro @q0a @q0b) ?_
   refine q0n (And.intro @q0a @q0b) [1000000, 1000001] (hH) ?_
   refine q0d (And.intro @q0a @q0b) ?_
   refine q0n (And.intro @q0a @q0b) [1000000, 1000001] (hM) ?_
   refine q0d (And.intro @q0a @q0b) ?_
   refine q09 (@q0b) Tryz.results72 ?_
   exact .c _
 · have hM := hel q1 q2 q3 q4 q5
   have hK' : ∃ k : Int, (q0p w : Int) = k ∧ (k == 11) = false ∧ (k == 12) = false ∧ (k == 9) = false ∧ (k == 10) = false ∧ (k == 14) = false := ⟨_, rfl, by simp; omega, by simp; omega, by simp; omega, by simp; omega, by simp; omega⟩
   obtain ⟨k, hkk, g1, g2, g3, g4, g5⟩ := hK'
   rw [hkk] at hK
   clear h11 h12 h9 h10 h14 hel hH hkk q1 q2 q3 q4 q5
   refine VC.toldXF (And.intro @q0a @q0i) q67 [] Tryz.func72 rfl Tryz.ntmps72 fun hb hbL => ?_
   clear hb hbL
   refine q0c ?_
   refine q0n (And.intro @q0a @q0b) [1000000, 1000001] (hT) ?_
   refine q06 (And.intro @q0a @q0b) ?_
   refine q0h (hK) ?_
   refine q06 (And.intro @q0a (And.intro @q0b (And.intro g1 (And.intro g2 (And.intro g3 (And.intro g4 g5)))))) ?_
   refine q0n (And.intro @q0a @q0b) [1000000, 1000001] (hM) ?_
   refine q0d (And.intro @q0a @q0b) ?_
   refine q09 (@q0b) Tryz.results72 ?_
   exact .c _

def q5j (e : Int) (x : JT) (fs : List FT) : Int := fl (q68 e x fs) (!(jget x q0o).isSome) 30
def q28 (fN : JT → List HN → BV) (hs : List HN) : List JT → List FT → List NT → Int → List FT × List NT × Int × Bool
 | [], fs, new, e => (fs, new, e, true)
 | x :: xs, fs, new, e => if e ≠ 0 then (fs, new, e, false)
   else q28 fN hs xs (fs ++ [{ q8h x with type := (q1z (fN (gt x q0o)) (hs ++ new.map q0k) (q5j e x fs)).2.1 }]) (new ++ (q1z (fN (gt x q0o)) (hs ++ new.map q0k) (q5j e x fs)).1) (q1z (fN (gt x q0o)) (hs ++ new.map q0k) (q5j e x fs)).2.2
def q4n (hs : List HN) (e : Int) (j : JT) : Int := fl (fl (fl e ((gt j q0z).kd != 5) 30) (decide (40 < (gt j q0z).its.length)) 3) (decide (200 ≤ hs.length)) 3
def q5i (fN : JT → List HN → BV) (hs : List HN) (e : Int) (j : JT) (n : NT) : BV :=
 if q4n hs e j ≠ 0 then ([], 0, q4n hs e j)
 else ({ n with fields := (q28 fN (hs ++ [q0k n]) (gt j q0z).its [] [] 0).1 } :: (q28 fN (hs ++ [q0k n]) (gt j q0z).its [] [] 0).2.1,
  if (q28 fN (hs ++ [q0k n]) (gt j q0z).its [] [] 0).2.2.2 = true then (hs.length : Int) else 0, (q28 fN (hs ++ [q0k n]) (gt j q0z).its [] [] 0).2.2.1)
def r0 (n : NT) : EN := ⟨n, .v (.slice none 0 0), .sl 1 (n.branches.map iPV)⟩
def rE (n : NT) (es : List EN) (new : List NT) : List EN := es ++ r0 n :: new.map EN.of
theorem q55 (n : NT) (es : List EN) (new : List NT) : (rE n es new).length = es.length + 1 + new.length := by simp [rE]; omega
theorem rE_at (n : NT) (es : List EN) (new : List NT) : (rE n es new)[es.length]? = some (r0 n) := by
 unfold rE
 rw [List.getElem?_append_right (Nat.le_refl _), Nat.sub_self]
 rfl
theorem rE_app (n : NT) (es : List EN) (new m : List NT) : rE n es new ++ m.map EN.of = rE n es (new ++ m) := by simp [rE]
theorem rE_hs (n : NT) (es : List EN) (new : List NT) : hsE (rE n es new) = hsE es ++ [q0k n] ++ new.map q0k := by
 unfold rE hsE
 rw [List.map_append, List.map_cons, List.map_map, List.append_assoc]
 rfl
theorem rC_eq (n : NT) (r m : Nat) : opF (r0 n) r m = [.c (.v (.int .i64 n.kind)), .c (.v (.string (str n.name))), .c (.sl 1 (n.aliases.map sPV)), .row r m, .c (.sl 1 (n.symbols.map sPV)), .c (.v (.bool n.has)), .c (.v (.string (str n.dflt))), .c (.v (.int .i64 n.size)), .c (.v (.int .i64 n.items)), .c (.sl 1 (n.branches.map iPV))] := rfl
theorem rE_done (n : NT) (es : List EN) (new : List NT) (fs : List FT) : (rA EN.cells (rE n es new)).set es.length [.c (.v (.int .i64 n.kind)), .c (.v (.string (str n.name))), .c (.sl 1 (n.aliases.map sPV)), .c (.sl 9 (fs.map FT.cells)), .c (.sl 1 (n.symbols.map sPV)), .c (.v (.bool n.has)), .c (.v (.string (str n.dflt))), .c (.v (.int .i64 n.size)), .c (.v (.int .i64 n.items)), .c (.sl 1 (n.branches.map iPV))] = rA EN.cells (es ++ ({ n with fields := fs } :: new).map EN.of) := by
 have h := q7i (f := EN.cells) (rE n es new) es.length (EN.of { n with fields := fs })
 unfold rE at h ⊢
 rw [List.set_append_right _ _ (Nat.le_refl _), Nat.sub_self, List.set_cons_zero] at h
 exact h
theorem rFB {h : Nat → Option Blkd} (L : Nat) (n : NT) (es : List EN) (new : List NT) (fs : List FT) {R : List EN} (hR : R = es ++ ({ n with fields := fs } :: new).map EN.of) (hB : h L = some ⟨true, 72, 9, rA FT.cells fs⟩) :
  FB [L] h ⟨true, 40, 10, (rA EN.cells (rE n es new)).set es.length (opF (r0 n) L fs.length)⟩ ⟨true, 40, 10, rA EN.cells R⟩ := by
 have hat : ((rA EN.cells (rE n es new)).set es.length (opF (r0 n) L fs.length))[es.length]? = some (opF (r0 n) L fs.length) := List.getElem?_set_self (by rw [q0a, q55]; omega)
 have h := FB.set (F := [L]) (h := h) (row := true) (T := 40) (z := 10) hat
  (e' := [.c (.v (.int .i64 n.kind)), .c (.v (.string (str n.name))), .c (.sl 1 (n.aliases.map sPV)), .c (.sl 9 (fs.map FT.cells)), .c (.sl 1 (n.symbols.map sPV)), .c (.v (.bool n.has)), .c (.v (.string (str n.dflt))), .c (.v (.int .i64 n.size)), .c (.v (.int .i64 n.items)), .c (.sl 1 (n.branches.map iPV))])
  (.cons (.same _) (.cons (.same _) (.cons (.same _) (.cons (.row (B := ⟨true, 72, 9, rA FT.cells fs⟩) (es := fs.map FT.cells) (by simp) hB rfl (q0a _ _) (q4v _ _)) (FVL.same _ _ _))))) (by simp [AV.cellish])
 rw [List.set_set, rE_done, ← hR] at h
 exact h
theorem rOpen {f : FuncId} {args : List AV} {y : AV} (n : NT) (es : List EN) (new : List NT) (fs : List FT) (e e' : Int) (m : List NT) (hy : ∀ used h, Sc used h y)
  (hT : ∀ E : List EN, E.length = es.length + 1 + new.length → hsE E = hsE es ++ [q0k n] ++ new.map q0k → ToldM Tryz.prog f args [xW E.length e, xN E] [some (xW (E ++ m.map EN.of).length e'), some (xN (E ++ m.map EN.of))] y) :
  ToldM Tryz.prog f args [xW (es.length + 1 + new.length) e, xNF (rE n es new) es.length (r0 n) 1000002 fs.length, xFs fs] [some (xW (es.length + 1 + (new ++ m).length) e'), some (xNF (rE n es (new ++ m)) es.length (r0 n) 1000002 fs.length), some (xFs fs)] y := by
 have h := z0b (rE_at n es new) (xFs fs) rfl (z14 fs) (f := f) (args := args) (y := y) (es.length + 1 + new.length) (es.length + 1 + (new ++ m).length) e e' m (by rw [q55, List.length_append]; omega) hy (fun x => by
  have h1 := hT ((rE n es new).set es.length ((r0 n).wf (.v x))) (by rw [List.length_set, q55]) (by rw [j5b (rE_at n es new) ((r0 n).wf (.v x)) rfl, rE_hs])
  rw [q8w, List.length_set, q55] at h1
  rw [List.length_append, ← Nat.add_assoc]
  exact h1)
 rw [rE_app, xFs_len] at h
 exact h
theorem z2j (n : NT) (es : List EN) (hl : es.length < 200) : ToldM Tryz.prog 117 [.ref 1000000 1 0 0, (r0 n).av] [xW es.length 0, xN es]
  [some (xW (es.length + 1) 0), some (xN (rE n es []))] (.c (.v (.int .i64 (es.length : Int)))) := by
 have h := j2x es (by omega) 0 (r0 n)
 rw [show decide (200 ≤ es.length) = false by simp; omega, show fl 0 false 3 = 0 from rfl, if_pos rfl, if_pos rfl, List.length_append] at h
 exact h

theorem z20 (es : List EN) (hl : es.length < 200) (j : JT) (hk5 : (gt j q0z).kd = 5) (h40 : (gt j q0z).its.length ≤ 40) (n : NT) (hnl : n.name.length ≤ 1000000000) (fN : JT → List HN → BV)
  (hK : ∀ x ∈ (gt j q0z).its, ∀ t, jget x q0o = some t → KidOk (q2f n.name) t (fN t))
  (hb1 : ∀ x ∈ (gt j q0z).its, (gt x q05).txt.length ≤ 100000000) (hb2 : ∀ x ∈ (gt j q0z).its, (gt x q1f).its.length ≤ 1000000) (hb3 : ∀ x ∈ (gt j q0z).its, ∀ y ∈ (gt x q1f).its, y.txt.length ≤ 100000000) :
  q1c 123 es 0 [j.av, (r0 n).av] (q5i fN (hsE es) 0 j n) := by
 have hsl : (hsE es).length = es.length := by rw [hsE, List.length_map]
 have hE0 : q4n (hsE es) 0 j = 0 := by
  unfold q4n
  rw [hk5, show decide (40 < (gt j q0z).its.length) = false by simp; omega, show decide (200 ≤ (hsE es).length) = false by simp; omega]
  rfl
 unfold q5i
 rw [if_neg (by rw [hE0]; simp), hsl]
 have hG := q4j j q0z
 rw [show (jget j q0z).getD zJ = gt j q0z from rfl] at hG
 generalize (jget j q0z).isSome = bj at *
 generalize gt j q0z = w at *
 obtain ⟨l, hl'⟩ : ∃ l, l = w.its := ⟨_, rfl⟩
 rw [← hl'] at hK hb1 hb2 hb3 h40 ⊢
 obtain ⟨G, hGG⟩ : ∃ G, G = q28 fN (hsE es ++ [q0k n]) l [] [] 0 := ⟨_, rfl⟩
 rw [← hGG]
 unfold q1c
 obtain ⟨G1, G2, G3, G4⟩ := G
 simp only []
 obtain ⟨R, hR⟩ : ∃ R, R = es ++ ({ n with fields := G1 } :: G2).map EN.of := ⟨_, rfl⟩
 obtain ⟨Pl, hPl⟩ : ∃ Pl : Int, Pl = if G4 = true then (es.length : Int) else 0 := ⟨_, rfl⟩
 have hRl : R.length = es.length + 1 + G2.length := by rw [hR]; simp; omega
 rw [← hR, ← hPl, hRl]
 have hFr := z2j n es hl
 have hF1 := q15 es es.length rfl 0 30 false
 rw [show fl 0 false 30 = 0 from rfl] at hF1
 have hF2 := q15 es es.length rfl 0 3 false
 rw [show fl 0 false 3 = 0 from rfl] at hF2
 have hd2 : decide ((l.length : Int) > 40) = false := by simp; omega
 have hSp := z03 n.name hnl
 have hscU : ∀ (new : List NT) (r m : Nat) {used : Nat → Prop} {h : Nat → Option Blkd}, (∀ e ∈ (rA EN.cells (rE n es new)).set es.length (opF (r0 n) r m), ∀ x ∈ e, Sc used h x) = Sc used h (.row r m) := fun new r m {used} {h} => (q6g (by rw [q55]; omega) _).trans (q8x (r0 n) r m)
 have hat0 : (rA EN.cells (rE n es []))[es.length]? = some ((r0 n).cells.map .c) := q6z (rE_at n es [])
 have hlen0 : (rE n es []).length = es.length + 1 := q55 n es []
 rw [EN.av_eq, q43] at hFr ⊢
 rw [JT.av_eq w, q03 w, hk5, ← hl'] at hG
 rw [JT.av_eq, q03] at hG ⊢
 generalize j.kd = j1 at *
 generalize j.num = j2 at *
 generalize j.txt = j3 at *
 generalize j.its = j4 at *
 generalize j.keys = j5 at *
 generalize w.num = w2 at *
 generalize w.txt = w3 at *
 generalize w.keys = w5 at *
 rw [q0z, q33 [102, 105, 101, 108, 100, 115]] at hG
 clear hE0 hsl hk5
 unfold xW xN at hFr hF1 hF2 ⊢
 refine VC.toldXF (And.intro @q0a (And.intro @q0i hRl)) ent_123 [] Tryz.func123 rfl Tryz.ntmps123 fun hb hbL => ?_
 clear hb hbL
 refine q0c ?_
 refine q0h (hG) ?_
 refine q0c ?_
 refine q0n (And.intro @q0a @q0b) [1000000, 1000001] (hF1) ?_
 refine q0d (And.intro @q0a (And.intro @q0b hd2)) ?_
 refine q0n (And.intro @q0a @q0b) [1000000, 1000001] (hF2) ?_
 refine q0d (And.intro @q0a @q0b) ?_
 refine q0n (And.intro @q0a @q0b) [1000000, 1000001] (hFr) ?_
 refine q0d (And.intro @q0a @q0b) ?_
 refine VC.nilR 1000001 es.length 3 72 9 ⟨true, 40, 10, rA EN.cells (rE n es [])⟩ ((r0 n).cells.map .c) (by simp only [go_sem, simprocAttr, q0b]) hat0 rfl (by rfl) ?_
 refine VC.loop (ι := {q : Nat × List FT × List NT × Int // q.1 ≤ l.length ∧ q.2.1.length = q.1 ∧ es.length + 1 + q.2.2.1.length ≤ 200 ∧ (G1, G2, G3, G4) = q28 fN (hsE es ++ [q0k n]) (l.drop q.1) q.2.1 q.2.2.1 q.2.2.2})
  (fun q => [(0, .ref 1000000 1 0 0), (5, .ref 8 1 0 0), (6, .c (.v (.int .i64 0))), (9, .c (.v (.int .i64 (es.length : Int)))), (35, .c (.sl 5 (l.map JT.cells))), (36, .c (.v (.int .i64 (l.length : Int)))), (37, .c (.v (.int .i64 (q.1.1 : Int))))])
  (fun q => [(1000000, ⟨false, 60, 3, [[.row 1000001 (es.length + 1 + q.1.2.2.1.length), .c (.v (.int .i64 0)), .c (.v (.int .i64 q.1.2.2.2))]]⟩), (1000001, ⟨true, 40, 10, (rA EN.cells (rE n es q.1.2.2.1)).set es.length (opF (r0 n) 240 q.1.2.1.length)⟩), (240, ⟨true, 72, 9, rA FT.cells q.1.2.1⟩),
   (8, ⟨false, 40, 10, [[.c (.v (.int .i64 n.kind)), .c (.v (.string (str n.name))), .c (.sl 1 (n.aliases.map sPV)), .c (.v (.slice none 0 0)), .c (.sl 1 (n.symbols.map sPV)), .c (.v (.bool n.has)), .c (.v (.string (str n.dflt))), .c (.v (.int .i64 n.size)), .c (.v (.int .i64 n.items)), .c (.sl 1 (n.branches.map iPV))]]⟩)]) 2000 (fun q => l.length - q.1.1)
  ⟨(0, [], [], 0), Nat.zero_le _, rfl, by simp; omega, by rw [List.drop_zero]; exact hGG⟩ ?_ ?_
 · simp only [q0a, q0i, q0b, List.length_map, List.length_set, List.length_nil, Nat.add_zero, q55, q60, hscU, Weak, eq_self, q0x, q0r, sc_c, q0t, q0u, q0v, q0q, q0s, ScL, q0w, List.forall_mem_map, go_sem, Int.reduceBEq, Int.reduceLE, Int.reduceLT, Int.reduceNeg, Nat.reduceAdd, Nat.reduceEqDiff, Nat.reduceLT, Nat.reduceLeDiff, Nat.reduceMul, Nat.reduceSub, reduceCtorEq, ↓reduceIte]
   exact ⟨⟨rfl, rfl⟩, Nat.le_refl _⟩
 rintro ⟨⟨i, fs, new, e⟩, hi, hkl, hnw, hGi⟩
 simp only [] at hi hkl hnw hGi ⊢
 have hlen : (rE n es new).length = es.length + 1 + new.length := q55 n es new
 refine q0c ?_
 refine VC.cond (by rfl) (by trivial) (fun hc => ?_) (fun hc => ?_)
 rotate_left
 · have hie : i = l.length := by simp at hc; omega
   rw [hie, List.drop_length] at hGi
   unfold q28 at hGi
   injection hGi with g1 hGi
   injection hGi with g2 hGi
   injection hGi with g3 g4
   subst g1 g2 g3 g4
   rw [if_pos rfl] at hPl
   subst hPl
   refine VC.frz [240] [(9, .c (.v (.int .i64 (es.length : Int))))] [(1000001, ⟨true, 40, 10, rA EN.cells R⟩), (1000000, ⟨false, 60, 3, [[.row 1000001 (es.length + 1 + G2.length), .c (.v (.int .i64 0)), .c (.v (.int .i64 G3))]]⟩)] 3000 ?_ ?_
   · simp only [q0a, q0i, q0b, q0f, q02, hRl, q5s, q0x, q0r, sc_c, q0t, q0u, q0v, q0q, q0s, ScL, q0w, List.forall_mem_map, go_sem, Int.reduceBEq, Int.reduceLE, Int.reduceLT, Int.reduceNeg, Nat.reduceAdd, Nat.reduceEqDiff, Nat.reduceLT, Nat.reduceLeDiff, Nat.reduceMul, Nat.reduceSub, reduceCtorEq, ↓reduceIte]
     exact ⟨.same _, ⟨rFB 240 n es G2 G1 hR (by rfl), .same _⟩, Nat.le_refl _⟩
   refine q0c ?_
   refine q09 (@q0b) Tryz.results123 ?_
   exact .c _
 · have hlt : i < l.length := by simp at hc; omega
   obtain ⟨x, hx⟩ : ∃ x, l[i]? = some x := ⟨l[i], List.getElem?_eq_getElem hlt⟩
   have hxm := List.mem_of_getElem? hx
   have hwi : IntKind.i64.wrap ((i : Int) + 1) = (i : Int) + 1 := q1g (by omega) (by omega)
   have hdr : l.drop i = x :: l.drop (i + 1) := by
    obtain ⟨h5, h6⟩ := List.getElem?_eq_some_iff.1 hx
    rw [List.drop_eq_getElem_cons h5, h6]
   rw [hdr] at hGi
   unfold q28 at hGi
   have hxp : (l.map JT.cells)[i]? = some x.cells := by rw [List.getElem?_map, hx]; rfl
   rw [q03 x] at hxp
   have hilt : (i : Int) < (l.length : Int) := by omega
   by_cases he : e ≠ 0
   · rw [if_pos he] at hGi
     injection hGi with g1 hGi
     injection hGi with g2 hGi
     injection hGi with g3 g4
     subst g1 g2 g3 g4
     rw [if_neg (by simp)] at hPl
     subst hPl
     have hq : (G3 != 0) = true := by simpa using he
     refine VC.frz [240] [(0, .ref 1000000 1 0 0), (35, .c (.sl 5 (l.map JT.cells))), (37, .c (.v (.int .i64 (i : Int))))] [(1000001, ⟨true, 40, 10, rA EN.cells R⟩), (1000000, ⟨false, 60, 3, [[.row 1000001 (es.length + 1 + G2.length), .c (.v (.int .i64 0)), .c (.v (.int .i64 G3))]]⟩)] 3000 ?_ ?_
     · simp only [q0a, q0i, q0b, q0f, q02, hRl, q5s, q0x, q0r, sc_c, q0t, q0u, q0v, q0q, q0s, ScL, q0w, List.forall_mem_map, go_sem, Int.reduceBEq, Int.reduceLE, Int.reduceLT, Int.reduceNeg, Nat.reduceAdd, Nat.reduceEqDiff, Nat.reduceLT, Nat.reduceLeDiff, Nat.reduceMul, Nat.reduceSub, reduceCtorEq, ↓reduceIte]
       exact ⟨⟨.same _, .same _, .same _⟩, ⟨rFB 240 n es G2 G1 hR (by rfl), .same _⟩, Nat.le_refl _⟩
     refine q06 (And.intro hxp (And.intro hilt hq)) ?_
     refine q09 (@q0b) Tryz.results123 ?_
     exact .c _
   · have he0 : e = 0 := by omega
     subst he0
     rw [if_neg he] at hGi
     have hFd := z2h (rE_at n es new) fs (by omega) 0 x (hb1 x hxm) (hb2 x hxm) (hb3 x hxm)
     rw [hlen] at hFd
     have hG2 := q4j x q0o
     rw [show (jget x q0o).getD zJ = gt x q0o from rfl] at hG2
     have hF3 := rOpen n es new fs (q68 0 x fs) (q5j 0 x fs) [] (f := 36) (args := [.ref 1000000 1 0 0, .c (.v (.bool (!(jget x q0o).isSome))), .c (.v (.int .i64 30))]) (y := .tup []) (fun _ _ => .tup (by simp)) (fun E _ _ => by
      simp only [List.map_nil, List.append_nil]
      exact q15 E E.length rfl (q68 0 x fs) 30 (!(jget x q0o).isSome))
     rw [List.append_nil] at hF3
     have hhl : (hsE es ++ [q0k n] ++ new.map q0k).length = es.length + 1 + new.length := by simp [hsE]; omega
     have hkx : q5j 0 x fs = 0 → KidOk (q2f n.name) (gt x q0o) (fN (gt x q0o)) := fun h0 => by
      have hs : (jget x q0o).isSome = true := by
       cases hb : (jget x q0o).isSome with
       | true => rfl
       | false =>
         unfold q5j fl at h0
         rw [hb] at h0
         split at h0
         · exact absurd h0 (by assumption)
         · simp at h0
      obtain ⟨t, ht⟩ := Option.isSome_iff_exists.1 hs
      have hg : gt x q0o = t := by unfold gt; rw [ht]; rfl
      rw [hg]
      exact hK x hxm t ht
     obtain ⟨f1, hf1⟩ : ∃ f1, f1 = (gt x q05).txt := ⟨_, rfl⟩
     obtain ⟨f2, hf2⟩ : ∃ f2, f2 = q40 x id := ⟨_, rfl⟩
     obtain ⟨f4, hf4⟩ : ∃ f4, f4 = (jget x q17).isSome := ⟨_, rfl⟩
     obtain ⟨f5, hf5⟩ : ∃ f5, f5 = gt x q17 := ⟨_, rfl⟩
     have hff : q8h x = ⟨f1, f2, 0, f4, f5⟩ := by rw [hf1, hf2, hf4, hf5]; rfl
     rw [hff] at hFd hGi
     clear hff hf1 hf2 hf4 hf5
     rw [FT.av_eq, FT.cells, q03 f5] at hFd
     simp only [] at hFd hGi
     have hone : ∀ y : Int, rA FT.cells fs ++ [[.c (.v (.string (str f1))), .c (.sl 1 (f2.map sPV)), .c (.v (.int .i64 y)), .c (.v (.bool f4)), .c (.v (.int .i64 f5.kd)), .c (.v (.int .i64 f5.num)), .c (.v (.string (str f5.txt))), .c (.sl 5 (f5.its.map JT.cells)), .c (.sl 1 (f5.keys.map sPV))]] = rA FT.cells (fs ++ [⟨f1, f2, y, f4, f5⟩]) := fun y => by
      have h := q83 FT.cells fs ⟨f1, f2, y, f4, f5⟩
      rw [FT.cells, q03 f5] at h
      exact h
     have hat : ∀ new : List NT, ((rA EN.cells (rE n es new)).set es.length (opF (r0 n) 240 fs.length))[es.length]? = some [.c (.v (.int .i64 n.kind)), .c (.v (.string (str n.name))), .c (.sl 1 (n.aliases.map sPV)), .row 240 fs.length, .c (.sl 1 (n.symbols.map sPV)), .c (.v (.bool n.has)), .c (.v (.string (str n.dflt))), .c (.v (.int .i64 n.size)), .c (.v (.int .i64 n.items)), .c (.sl 1 (n.branches.map iPV))] := fun new => (List.getElem?_set_self (by rw [q0a, q55]; omega)).trans (congrArg some (rC_eq n 240 fs.length))
     have h0l : (0 : Int) ≤ (es.length : Int) := by omega
     have hll : ∀ new : List NT, (es.length : Int) < ((es.length + 1 + new.length : Nat) : Int) := fun new => by omega
     generalize q5j 0 x fs = e1 at *
     generalize q68 0 x fs = ef at *
     generalize (jget x q0o).isSome = bt at *
     generalize gt x q0o = t at *
     clear hb1 hb2 hb3
     rw [JT.av_eq x, q03 x] at hFd hG2
     generalize x.kd = x1 at *
     generalize x.num = x2 at *
     generalize x.txt = x3 at *
     generalize x.its = x4 at *
     generalize x.keys = x5 at *
     rw [q0o, q33 [116, 121, 112, 101]] at hG2
     unfold xW xNF xFs at hFd hF3
     by_cases h1 : e1 = 0
     · subst h1
       have hkk := hkx rfl
       have hst : q1z (fN t) (hsE es ++ [q0k n] ++ new.map q0k) 0 = fN t (hsE es ++ [q0k n] ++ new.map q0k) := by unfold q1z; rw [if_neg (by simp)]
       rw [hst] at hGi
       have hvl := hkk.len (hsE es ++ [q0k n] ++ new.map q0k) (by rw [hhl]; exact hnw)
       rw [hhl] at hvl
       have hN := fun (hsc : ∀ used h, Sc used h (intV (fN t (hsE es ++ [q0k n] ++ new.map q0k)).2.1)) => rOpen n es new fs 0 (fN t (hsE es ++ [q0k n] ++ new.map q0k)).2.2 (fN t (hsE es ++ [q0k n] ++ new.map q0k)).1 hsc (f := 35) (args := [.ref 1000000 1 0 0, t.av, strV (q2f n.name)]) (fun E hEl hEh => by
        have h := hkk.told E (by rw [hEl]; exact hnw)
        rw [hEh] at h
        exact h)
       replace hN := hN (fun _ _ => .c)
       generalize fN t (hsE es ++ [q0k n] ++ new.map q0k) = V at *
       obtain ⟨V1, V2, V3⟩ := V
       simp only [] at hN hGi hvl
       have hlen2 : (rE n es (new ++ V1)).length = es.length + 1 + (new ++ V1).length := q55 n es (new ++ V1)
       unfold xW xNF xFs intV strV at hN
       rw [JT.av_eq t, q03 t] at hG2 hN
       have hone0 := hone V2
       have hatn := hat new
       have hlln := hll new
       have hatm := hat (new ++ V1)
       have hllm := hll (new ++ V1)
       (repeat (first | refine pass ?_ | refine VC.region (by rfl) (by rfl) ?_ | (refine AO.step fun K hK => ?_; simp only [hxp, List.length_map, hilt, hatn, h0l, hlln, List.length_set, q0a, hlen, go_sem, Int.reduceBEq, Int.reduceLE, Int.reduceLT, Int.reduceNeg, Nat.reduceAdd, Nat.reduceEqDiff, Nat.reduceLT, Nat.reduceLeDiff, Nat.reduceMul, Nat.reduceSub, reduceCtorEq, ↓reduceIte]; (first | refine q07 ?_ | refine q0g ?_ | skip); (first | refine hK _ _ _ ?_ | refine ⟨by first | omega | exact ⟨_, rfl, rfl⟩ | exact fun _ => ⟨_, rfl, rfl⟩ | (intro h; simp only [hxp, List.length_map, hilt, hatn, h0l, hlln, List.length_set, q0a, hlen, h, true_and]; omega) | (clear hK; intro h; simp_all <;> omega), hK _ _ _ ?_⟩); clear hK K) | refine VC.draw mixP (by rfl) (by rfl) ?_ | refine ⟨q08 (by kernel_rfl), ?_⟩ | refine BQ.other (by decide) ?_ | refine VC.seq ?_ | refine AO.nil ?_ | refine VC.block ?_ | refine VC.condT (by rfl) (by trivial) ?_ | refine VC.condF (by rfl) (by trivial) ?_))
       ((refine AO.step fun K hK => ?_; simp only [go_sem, Int.reduceBEq, Int.reduceLE, Int.reduceLT, Int.reduceNeg, Nat.reduceAdd, Nat.reduceEqDiff, Nat.reduceLT, Nat.reduceLeDiff, Nat.reduceMul, Nat.reduceSub, reduceCtorEq, ↓reduceIte, q0a, q0b, q0f, q02, List.length_set, hlen]; (first | refine q0g ?_ | skip)); refine .inr (.inr (.inl ⟨?vy1, [1000000, 1000001, 240], ?va1, ?vl1, ?vm1, ?cond1, ?cont1⟩)); (case cond1 => ((repeat' apply And.intro) <;> (try ((with_reducible show ToldM _ _ _ _ _ _); exact hFd))); (all_goals first | trivial | (simp only [q0a, q0b, q0f, q02, List.length_set, hlen, go_sem, simprocAttr]; done) | (simp; done) | rfl)); (first | refine hK _ _ _ ?_ | (simp only [q0a, q0b, q0f, q02, List.length_set, hlen, go_sem, simprocAttr]; first | refine hK _ _ _ ?_ | refine ⟨rfl, hK _ _ _ ?_⟩)); clear hK K)
       (repeat (first | refine pass ?_ | refine VC.region (by rfl) (by rfl) ?_ | (refine AO.step fun K hK => ?_; simp only [List.length_set, q0a, q0b, q0f, q02, hlen, go_sem, Int.reduceBEq, Int.reduceLE, Int.reduceLT, Int.reduceNeg, Nat.reduceAdd, Nat.reduceEqDiff, Nat.reduceLT, Nat.reduceLeDiff, Nat.reduceMul, Nat.reduceSub, reduceCtorEq, ↓reduceIte]; (first | refine q07 ?_ | refine q0g ?_ | skip); (first | refine hK _ _ _ ?_ | refine ⟨by first | omega | exact ⟨_, rfl, rfl⟩ | exact fun _ => ⟨_, rfl, rfl⟩ | (intro h; simp only [List.length_set, q0a, q0b, q0f, q02, hlen, h, true_and]; omega) | (clear hK; intro h; simp_all <;> omega), hK _ _ _ ?_⟩); clear hK K) | refine VC.draw mixP (by rfl) (by rfl) ?_ | refine ⟨q08 (by kernel_rfl), ?_⟩ | refine BQ.other (by decide) ?_ | refine VC.seq ?_ | refine AO.nil ?_ | refine VC.block ?_))
       refine q0h (hG2) ?_
       (repeat (first | refine pass ?_ | refine VC.region (by rfl) (by rfl) ?_ | (refine AO.step fun K hK => ?_; simp only [List.length_set, q0a, q0b, q0f, q02, hlen, go_sem, Int.reduceBEq, Int.reduceLE, Int.reduceLT, Int.reduceNeg, Nat.reduceAdd, Nat.reduceEqDiff, Nat.reduceLT, Nat.reduceLeDiff, Nat.reduceMul, Nat.reduceSub, reduceCtorEq, ↓reduceIte]; (first | refine q07 ?_ | refine q0g ?_ | skip); (first | refine hK _ _ _ ?_ | refine ⟨by first | omega | exact ⟨_, rfl, rfl⟩ | exact fun _ => ⟨_, rfl, rfl⟩ | (intro h; simp only [List.length_set, q0a, q0b, q0f, q02, hlen, h, true_and]; omega) | (clear hK; intro h; simp_all <;> omega), hK _ _ _ ?_⟩); clear hK K) | refine VC.draw mixP (by rfl) (by rfl) ?_ | refine ⟨q08 (by kernel_rfl), ?_⟩ | refine BQ.other (by decide) ?_ | refine VC.seq ?_ | refine AO.nil ?_ | refine VC.block ?_))
       ((refine AO.step fun K hK => ?_; simp only [go_sem, Int.reduceBEq, Int.reduceLE, Int.reduceLT, Int.reduceNeg, Nat.reduceAdd, Nat.reduceEqDiff, Nat.reduceLT, Nat.reduceLeDiff, Nat.reduceMul, Nat.reduceSub, reduceCtorEq, ↓reduceIte, q0a, q0b, q0f, q02, List.length_set, hlen]; (first | refine q0g ?_ | skip)); refine .inr (.inr (.inl ⟨?vy2, [1000000, 1000001, 240], ?va2, ?vl2, ?vm2, ?cond2, ?cont2⟩)); (case cond2 => ((repeat' apply And.intro) <;> (try ((with_reducible show ToldM _ _ _ _ _ _); exact hF3))); (all_goals first | trivial | (simp only [q0a, q0b, q0f, q02, List.length_set, hlen, go_sem, simprocAttr]; done) | (simp; done) | rfl)); (first | refine hK _ _ _ ?_ | (simp only [q0a, q0b, q0f, q02, List.length_set, hlen, go_sem, simprocAttr]; first | refine hK _ _ _ ?_ | refine ⟨rfl, hK _ _ _ ?_⟩)); clear hK K)
       (repeat (first | refine pass ?_ | refine VC.region (by rfl) (by rfl) ?_ | (refine AO.step fun K hK => ?_; simp only [List.length_set, q0a, q0b, q0f, q02, hlen, go_sem, Int.reduceBEq, Int.reduceLE, Int.reduceLT, Int.reduceNeg, Nat.reduceAdd, Nat.reduceEqDiff, Nat.reduceLT, Nat.reduceLeDiff, Nat.reduceMul, Nat.reduceSub, reduceCtorEq, ↓reduceIte]; (first | refine q07 ?_ | refine q0g ?_ | skip); (first | refine hK _ _ _ ?_ | refine ⟨by first | omega | exact ⟨_, rfl, rfl⟩ | exact fun _ => ⟨_, rfl, rfl⟩ | (intro h; simp only [List.length_set, q0a, q0b, q0f, q02, hlen, h, true_and]; omega) | (clear hK; intro h; simp_all <;> omega), hK _ _ _ ?_⟩); clear hK K) | refine VC.draw mixP (by rfl) (by rfl) ?_ | refine ⟨q08 (by kernel_rfl), ?_⟩ | refine BQ.other (by decide) ?_ | refine VC.seq ?_ | refine AO.nil ?_ | refine VC.block ?_ | refine VC.condT (by rfl) (by trivial) ?_ | refine VC.condF (by rfl) (by trivial) ?_))
       refine q0h (hSp) ?_
       (repeat (first | refine pass ?_ | refine VC.region (by rfl) (by rfl) ?_ | (refine AO.step fun K hK => ?_; simp only [List.length_set, q0a, q0b, q0f, q02, hlen, go_sem, Int.reduceBEq, Int.reduceLE, Int.reduceLT, Int.reduceNeg, Nat.reduceAdd, Nat.reduceEqDiff, Nat.reduceLT, Nat.reduceLeDiff, Nat.reduceMul, Nat.reduceSub, reduceCtorEq, ↓reduceIte]; (first | refine q07 ?_ | refine q0g ?_ | skip); (first | refine hK _ _ _ ?_ | refine ⟨by first | omega | exact ⟨_, rfl, rfl⟩ | exact fun _ => ⟨_, rfl, rfl⟩ | (intro h; simp only [List.length_set, q0a, q0b, q0f, q02, hlen, h, true_and]; omega) | (clear hK; intro h; simp_all <;> omega), hK _ _ _ ?_⟩); clear hK K) | refine VC.draw mixP (by rfl) (by rfl) ?_ | refine ⟨q08 (by kernel_rfl), ?_⟩ | refine BQ.other (by decide) ?_ | refine VC.seq ?_ | refine AO.nil ?_ | refine VC.block ?_))
       ((refine AO.step fun K hK => ?_; simp only [go_sem, Int.reduceBEq, Int.reduceLE, Int.reduceLT, Int.reduceNeg, Nat.reduceAdd, Nat.reduceEqDiff, Nat.reduceLT, Nat.reduceLeDiff, Nat.reduceMul, Nat.reduceSub, reduceCtorEq, ↓reduceIte, q0a, q0b, q0f, q02, List.length_set, hlen, hlen2]; (first | refine q0g ?_ | skip)); refine .inr (.inr (.inl ⟨?vy3, [1000000, 1000001, 240], ?va3, ?vl3, ?vm3, ?cond3, ?cont3⟩)); (case cond3 => ((repeat' apply And.intro) <;> (try ((with_reducible show ToldM _ _ _ _ _ _); exact hN))); (all_goals first | trivial | (simp only [q0a, q0b, q0f, q02, List.length_set, hlen, hlen2, go_sem, simprocAttr]; done) | (simp; done) | rfl)); (first | refine hK _ _ _ ?_ | (simp only [q0a, q0b, q0f, q02, List.length_set, hlen, hlen2, go_sem, simprocAttr]; first | refine hK _ _ _ ?_ | refine ⟨rfl, hK _ _ _ ?_⟩)); clear hK K)
       (repeat (first | refine pass ?_ | refine VC.region (by rfl) (by rfl) ?_ | (refine AO.step fun K hK => ?_; simp only [List.length_set, q0a, q0b, q0f, q02, hlen2, hatm, h0l, hllm, hone0, List.set_set, hwi, go_sem, Int.reduceBEq, Int.reduceLE, Int.reduceLT, Int.reduceNeg, Nat.reduceAdd, Nat.reduceEqDiff, Nat.reduceLT, Nat.reduceLeDiff, Nat.reduceMul, Nat.reduceSub, reduceCtorEq, ↓reduceIte]; (first | refine q07 ?_ | refine q0g ?_ | skip); (first | refine hK _ _ _ ?_ | refine ⟨by first | omega | exact ⟨_, rfl, rfl⟩ | exact fun _ => ⟨_, rfl, rfl⟩ | (intro h; simp only [List.length_set, q0a, q0b, q0f, q02, hlen2, hatm, h0l, hllm, hone0, List.set_set, hwi, h, true_and]; omega) | (clear hK; intro h; simp_all <;> omega), hK _ _ _ ?_⟩); clear hK K) | refine VC.draw mixP (by rfl) (by rfl) ?_ | refine ⟨q08 (by kernel_rfl), ?_⟩ | refine BQ.other (by decide) ?_ | refine VC.seq ?_ | refine AO.nil ?_ | refine VC.block ?_ | refine VC.condT (by rfl) (by trivial) ?_ | refine VC.condF (by rfl) (by trivial) ?_))
       refine .next ⟨(i + 1, fs ++ [⟨f1, f2, V2, f4, f5⟩], new ++ V1, V3), by simp only []; omega, by simp only [List.length_append, List.length_singleton]; omega, by simp only [List.length_append]; omega, hGi⟩ ?_ (by simp only []; omega)
       simp only [q0a, q0i, q0b, q0f, q02, List.length_map, List.length_set, hlen2, hscU, List.length_append, List.length_singleton, Weak, eq_self, q0x, q0r, sc_c, q0t, q0u, q0v, q0q, q0s, ScL, q0w, List.forall_mem_map, go_sem, Int.reduceBEq, Int.reduceLE, Int.reduceLT, Int.reduceNeg, Nat.reduceAdd, Nat.reduceEqDiff, Nat.reduceLT, Nat.reduceLeDiff, Nat.reduceMul, Nat.reduceSub, reduceCtorEq, ↓reduceIte]
       exact ⟨cI (by omega), rfl, Nat.le_refl _, Nat.le_refl _⟩
     · have hst : q1z (fN t) (hsE es ++ [q0k n] ++ new.map q0k) e1 = ([], 0, e1) := by unfold q1z; rw [if_pos h1]
       rw [hst] at hGi
       simp only [List.append_nil] at hGi
       rw [JT.av_eq t, q03 t] at hG2
       have hq : (e1 == 0) = false := by simpa using h1
       have hone0 := hone 0
       have hatn := hat new
       have hlln := hll new
       (repeat (first | refine pass ?_ | refine VC.region (by rfl) (by rfl) ?_ | (refine AO.step fun K hK => ?_; simp only [hxp, List.length_map, hilt, hatn, h0l, hlln, List.length_set, q0a, hlen, go_sem, Int.reduceBEq, Int.reduceLE, Int.reduceLT, Int.reduceNeg, Nat.reduceAdd, Nat.reduceEqDiff, Nat.reduceLT, Nat.reduceLeDiff, Nat.reduceMul, Nat.reduceSub, reduceCtorEq, ↓reduceIte]; (first | refine q07 ?_ | refine q0g ?_ | skip); (first | refine hK _ _ _ ?_ | refine ⟨by first | omega | exact ⟨_, rfl, rfl⟩ | exact fun _ => ⟨_, rfl, rfl⟩ | (intro h; simp only [hxp, List.length_map, hilt, hatn, h0l, hlln, List.length_set, q0a, hlen, h, true_and]; omega) | (clear hK; intro h; simp_all <;> omega), hK _ _ _ ?_⟩); clear hK K) | refine VC.draw mixP (by rfl) (by rfl) ?_ | refine ⟨q08 (by kernel_rfl), ?_⟩ | refine BQ.other (by decide) ?_ | refine VC.seq ?_ | refine AO.nil ?_ | refine VC.block ?_ | refine VC.condT (by rfl) (by trivial) ?_ | refine VC.condF (by rfl) (by trivial) ?_))
       ((refine AO.step fun K hK => ?_; simp only [go_sem, Int.reduceBEq, Int.reduceLE, Int.reduceLT, Int.reduceNeg, Nat.reduceAdd, Nat.reduceEqDiff, Nat.reduceLT, Nat.reduceLeDiff, Nat.reduceMul, Nat.reduceSub, reduceCtorEq, ↓reduceIte, q0a, q0b, q0f, q02, List.length_set, hlen]; (first | refine q0g ?_ | skip)); refine .inr (.inr (.inl ⟨?vy4, [1000000, 1000001, 240], ?va4, ?vl4, ?vm4, ?cond4, ?cont4⟩)); (case cond4 => ((repeat' apply And.intro) <;> (try ((with_reducible show ToldM _ _ _ _ _ _); exact hFd))); (all_goals first | trivial | (simp only [q0a, q0b, q0f, q02, List.length_set, hlen, go_sem, simprocAttr]; done) | (simp; done) | rfl)); (first | refine hK _ _ _ ?_ | (simp only [q0a, q0b, q0f, q02, List.length_set, hlen, go_sem, simprocAttr]; first | refine hK _ _ _ ?_ | refine ⟨rfl, hK _ _ _ ?_⟩)); clear hK K)
       (repeat (first | refine pass ?_ | refine VC.region (by rfl) (by rfl) ?_ | (refine AO.step fun K hK => ?_; simp only [List.length_set, q0a, q0b, q0f, q02, hlen, go_sem, Int.reduceBEq, Int.reduceLE, Int.reduceLT, Int.reduceNeg, Nat.reduceAdd, Nat.reduceEqDiff, Nat.reduceLT, Nat.reduceLeDiff, Nat.reduceMul, Nat.reduceSub, reduceCtorEq, ↓reduceIte]; (first | refine q07 ?_ | refine q0g ?_ | skip); (first | refine hK _ _ _ ?_ | refine ⟨by first | omega | exact ⟨_, rfl, rfl⟩ | exact fun _ => ⟨_, rfl, rfl⟩ | (intro h; simp only [List.length_set, q0a, q0b, q0f, q02, hlen, h, true_and]; omega) | (clear hK; intro h; simp_all <;> omega), hK _ _ _ ?_⟩); clear hK K) | refine VC.draw mixP (by rfl) (by rfl) ?_ | refine ⟨q08 (by kernel_rfl), ?_⟩ | refine BQ.other (by decide) ?_ | refine VC.seq ?_ | refine AO.nil ?_ | refine VC.block ?_))
       refine q0h (hG2) ?_
       (repeat (first | refine pass ?_ | refine VC.region (by rfl) (by rfl) ?_ | (refine AO.step fun K hK => ?_; simp only [List.length_set, q0a, q0b, q0f, q02, hlen, go_sem, Int.reduceBEq, Int.reduceLE, Int.reduceLT, Int.reduceNeg, Nat.reduceAdd, Nat.reduceEqDiff, Nat.reduceLT, Nat.reduceLeDiff, Nat.reduceMul, Nat.reduceSub, reduceCtorEq, ↓reduceIte]; (first | refine q07 ?_ | refine q0g ?_ | skip); (first | refine hK _ _ _ ?_ | refine ⟨by first | omega | exact ⟨_, rfl, rfl⟩ | exact fun _ => ⟨_, rfl, rfl⟩ | (intro h; simp only [List.length_set, q0a, q0b, q0f, q02, hlen, h, true_and]; omega) | (clear hK; intro h; simp_all <;> omega), hK _ _ _ ?_⟩); clear hK K) | refine VC.draw mixP (by rfl) (by rfl) ?_ | refine ⟨q08 (by kernel_rfl), ?_⟩ | refine BQ.other (by decide) ?_ | refine VC.seq ?_ | refine AO.nil ?_ | refine VC.block ?_))
       ((refine AO.step fun K hK => ?_; simp only [go_sem, Int.reduceBEq, Int.reduceLE, Int.reduceLT, Int.reduceNeg, Nat.reduceAdd, Nat.reduceEqDiff, Nat.reduceLT, Nat.reduceLeDiff, Nat.reduceMul, Nat.reduceSub, reduceCtorEq, ↓reduceIte, q0a, q0b, q0f, q02, List.length_set, hlen]; (first | refine q0g ?_ | skip)); refine .inr (.inr (.inl ⟨?vy5, [1000000, 1000001, 240], ?va5, ?vl5, ?vm5, ?cond5, ?cont5⟩)); (case cond5 => ((repeat' apply And.intro) <;> (try ((with_reducible show ToldM _ _ _ _ _ _); exact hF3))); (all_goals first | trivial | (simp only [q0a, q0b, q0f, q02, List.length_set, hlen, go_sem, simprocAttr]; done) | (simp; done) | rfl)); (first | refine hK _ _ _ ?_ | (simp only [q0a, q0b, q0f, q02, List.length_set, hlen, go_sem, simprocAttr]; first | refine hK _ _ _ ?_ | refine ⟨rfl, hK _ _ _ ?_⟩)); clear hK K)
       (repeat (first | refine pass ?_ | refine VC.region (by rfl) (by rfl) ?_ | (refine AO.step fun K hK => ?_; simp only [List.length_set, q0a, q0b, q0f, q02, hlen, hq, hatn, h0l, hlln, hone0, List.set_set, hwi, go_sem, Int.reduceBEq, Int.reduceLE, Int.reduceLT, Int.reduceNeg, Nat.reduceAdd, Nat.reduceEqDiff, Nat.reduceLT, Nat.reduceLeDiff, Nat.reduceMul, Nat.reduceSub, reduceCtorEq, ↓reduceIte]; (first | refine q07 ?_ | refine q0g ?_ | skip); (first | refine hK _ _ _ ?_ | refine ⟨by first | omega | exact ⟨_, rfl, rfl⟩ | exact fun _ => ⟨_, rfl, rfl⟩ | (intro h; simp only [List.length_set, q0a, q0b, q0f, q02, hlen, hq, hatn, h0l, hlln, hone0, List.set_set, hwi, h, true_and]; omega) | (clear hK; intro h; simp_all <;> omega), hK _ _ _ ?_⟩); clear hK K) | refine VC.draw mixP (by rfl) (by rfl) ?_ | refine ⟨q08 (by kernel_rfl), ?_⟩ | refine BQ.other (by decide) ?_ | refine VC.seq ?_ | refine AO.nil ?_ | refine VC.block ?_ | refine VC.condT (by rfl) (by trivial) ?_ | refine VC.condF (by rfl) (by trivial) ?_))
       refine .next ⟨(i + 1, fs ++ [⟨f1, f2, 0, f4, f5⟩], new, e1), by simp only []; omega, by simp only [List.length_append, List.length_singleton]; omega, hnw, hGi⟩ ?_ (by simp only []; omega)
       simp only [q0a, q0i, q0b, q0f, q02, List.length_map, List.length_set, hlen, hscU, List.length_append, List.length_singleton, Weak, eq_self, q0x, q0r, sc_c, q0t, q0u, q0v, q0q, q0s, ScL, q0w, List.forall_mem_map, go_sem, Int.reduceBEq, Int.reduceLE, Int.reduceLT, Int.reduceNeg, Nat.reduceAdd, Nat.reduceEqDiff, Nat.reduceLT, Nat.reduceLeDiff, Nat.reduceMul, Nat.reduceSub, reduceCtorEq, ↓reduceIte]
       exact ⟨cI (by omega), rfl, Nat.le_refl _, Nat.le_refl _⟩

theorem z2z (es : List EN) (hl : es.length ≤ 200) (e : Int) (j : JT) (n : NT) (h3 : q4n (hsE es) e j ≠ 0) :
  q1c 123 es e [j.av, (r0 n).av] ([], 0, q4n (hsE es) e j) := by
 have hsl : (hsE es).length = es.length := by rw [hsE, List.length_map]
 have hG := q4j j q0z
 rw [show (jget j q0z).getD zJ = gt j q0z from rfl] at hG
 have hF1 := q15 es es.length rfl e 30 ((gt j q0z).kd != 5)
 have hF2 := q15 es es.length rfl (fl e ((gt j q0z).kd != 5) 30) 3 (decide (40 < (gt j q0z).its.length))
 have hFr := j2x es hl (fl (fl e ((gt j q0z).kd != 5) 30) (decide (40 < (gt j q0z).its.length)) 3) (r0 n)
 unfold q4n at h3 ⊢
 rw [hsl] at h3 ⊢
 rw [if_neg h3, if_neg h3] at hFr
 have hgt : decide (((gt j q0z).its.length : Int) > 40) = decide (40 < (gt j q0z).its.length) := decide_eq_decide.2 (by omega)
 generalize fl (fl (fl e ((gt j q0z).kd != 5) 30) (decide (40 < (gt j q0z).its.length)) 3) (decide (200 ≤ es.length)) 3 = e3 at *
 generalize fl (fl e ((gt j q0z).kd != 5) 30) (decide (40 < (gt j q0z).its.length)) 3 = e2 at *
 generalize fl e ((gt j q0z).kd != 5) 30 = e1 at *
 generalize decide (40 < (gt j q0z).its.length) = bg at *
 generalize (jget j q0z).isSome = bj at *
 generalize gt j q0z = w at *
 unfold q1c
 simp only [List.map_nil, List.append_nil]
 have hq : (e3 != 0) = true := by simpa using h3
 rw [EN.av_eq, q43] at hFr ⊢
 rw [JT.av_eq w, q03 w] at hG
 rw [JT.av_eq, q03] at hG ⊢
 generalize j.kd = j1 at *
 generalize j.num = j2 at *
 generalize j.txt = j3 at *
 generalize j.its = j4 at *
 generalize j.keys = j5 at *
 generalize w.kd = w1 at *
 generalize w.num = w2 at *
 generalize w.txt = w3 at *
 generalize w.its = l at *
 generalize w.keys = w5 at *
 rw [q0z, q33 [102, 105, 101, 108, 100, 115]] at hG
 unfold xW xN at hFr hF1 hF2 ⊢
 refine VC.toldXF (And.intro @q0a @q0i) ent_123 [] Tryz.func123 rfl Tryz.ntmps123 fun hb hbL => ?_
 clear hb hbL
 refine q0c ?_
 refine q0h (hG) ?_
 refine q0c ?_
 refine q0n (And.intro @q0a @q0b) [1000000, 1000001] (hF1) ?_
 refine q0d (And.intro @q0a (And.intro @q0b hgt)) ?_
 refine q0n (And.intro @q0a @q0b) [1000000, 1000001] (hF2) ?_
 refine q0d (And.intro @q0a @q0b) ?_
 refine q0n (And.intro @q0a @q0b) [1000000, 1000001] (hFr) ?_
 refine q0d (And.intro @q0a @q0b) ?_
 refine VC.loop (ι := {i : Nat // i = 0}) (fun q => [(0, .ref 1000000 1 0 0), (6, .c (.v (.int .i64 0))), (9, .c (.v (.int .i64 0))), (35, .c (.sl 5 (l.map JT.cells))), (36, .c (.v (.int .i64 (l.length : Int)))), (37, .c (.v (.int .i64 0)))])
  (fun q => [(1000000, ⟨false, 60, 3, [[.row 1000001 es.length, .c (.v (.int .i64 0)), .c (.v (.int .i64 e3))]]⟩), (1000001, ⟨true, 40, 10, rA EN.cells es⟩)]) 2000 (fun q => 0) ⟨0, rfl⟩ ?_ ?_
 · refine q3l (And.intro @q0a (And.intro @q0i @q0b)) ?_
   exact Nat.le_refl _
 rintro ⟨i, hi⟩
 subst hi
 refine q0c ?_
 refine VC.cond (by rfl) (by trivial) (fun hc => ?_) (fun hc => ?_)
 · have hlt : 0 < l.length := by simp at hc; omega
   obtain ⟨x, hx⟩ : ∃ x, l[0]? = some x := ⟨l[0], List.getElem?_eq_getElem hlt⟩
   have hxp : (l.map JT.cells)[0]? = some x.cells := by rw [List.getElem?_map, hx]; rfl
   have hll : (0 : Int) < (l.length : Int) := by omega
   rw [q03 x] at hxp
   refine q06 (And.intro hxp (And.intro hll (And.intro hq (And.intro @q0a @q0b)))) ?_
   refine q09 (@q0b) Tryz.results123 ?_
   exact .c _
 · refine q0d (And.intro @q0a @q0b) ?_
   refine q09 (@q0b) Tryz.results123 ?_
   exact .c _
theorem z2y (es : List EN) (hl : es.length ≤ 200) (e : Int) (j : JT) (n : NT) (hnl : n.name.length ≤ 1000000000) (fN : JT → List HN → BV)
  (hK : (gt j q0z).kd = 5 → ∀ x ∈ (gt j q0z).its, ∀ t, jget x q0o = some t → KidOk (q2f n.name) t (fN t))
  (hb1 : ∀ x ∈ (gt j q0z).its, (gt x q05).txt.length ≤ 100000000) (hb2 : ∀ x ∈ (gt j q0z).its, (gt x q1f).its.length ≤ 1000000) (hb3 : ∀ x ∈ (gt j q0z).its, ∀ y ∈ (gt x q1f).its, y.txt.length ≤ 100000000) :
  q1c 123 es e [j.av, (r0 n).av] (q5i fN (hsE es) e j n) := by
 by_cases h : q4n (hsE es) e j = 0
 · have h1 := h
   unfold q4n at h1
   have hsl : (hsE es).length = es.length := by rw [hsE, List.length_map]
   rw [hsl] at h1
   have fl0 : ∀ {e : Int} {b : Bool} {c : Int}, c ≠ 0 → fl e b c = 0 → e = 0 ∧ b = false := fun {e b c} hc h => by
    by_cases he : e = 0
    · subst he
      rw [fl_ok] at h
      cases b with
      | true => exact absurd (by simpa using h) hc
      | false => exact ⟨rfl, rfl⟩
    · rw [q1p _ _ _ he] at h
      exact absurd h he
   obtain ⟨h2, h3⟩ := fl0 (by decide) h1
   obtain ⟨h4, h5⟩ := fl0 (by decide) h2
   obtain ⟨h6, h7⟩ := fl0 (by decide) h4
   subst h6
   exact z20 es (by simp at h3; omega) j (by simpa using h7) (by simp at h5; omega) n hnl fN (hK (by simpa using h7)) hb1 hb2 hb3
 · have h1 := z2z es hl e j n h
   unfold q5i
   rw [if_pos h]
   exact h1

theorem xL_len (l : List Int) : (xL l).len = l.length := by unfold xL Blkd.len; rw [q0a]
theorem xL_pure (l : List Int) : ∀ e ∈ (xL l).elems, ∀ x ∈ e, ∃ p, x = AV.c p := fun e he x hx => by
 obtain ⟨b, _, rfl⟩ := List.mem_map.1 he
 obtain ⟨p, _, rfl⟩ := List.mem_map.1 hx
 exact ⟨p, rfl⟩
theorem uOpen {f : FuncId} {args : List AV} {y : AV} (es : List EN) (new : List NT) (ks : List Int) (e e' : Int) (m : List NT) (hy : ∀ used h, Sc used h y)
  (hT : ∀ E : List EN, E.length = es.length + 1 + new.length → hsE E = hsE es ++ [(13, [])] ++ new.map q0k → ToldM Tryz.prog f args [xW E.length e, xN E] [some (xW (E ++ m.map EN.of).length e'), some (xN (E ++ m.map EN.of))] y) :
  ToldM Tryz.prog f args [xW (es.length + 1 + new.length) e, xNB (uE es new) es.length uN0 1000002 ks.length, xL ks] [some (xW (es.length + 1 + (new ++ m).length) e'), some (xNB (uE es (new ++ m)) es.length uN0 1000002 ks.length), some (xL ks)] y := by
 have h := open_told (uE_at es new) (xL ks) rfl (xL_pure ks) (f := f) (args := args) (y := y) (es.length + 1 + new.length) (es.length + 1 + (new ++ m).length) e e' m (by rw [q6j, List.length_append]; omega) hy (fun x => by
  have h1 := hT ((uE es new).set es.length (uN0.wb (.v x))) (by rw [List.length_set, q6j]) (by rw [j5b (uE_at es new) (uN0.wb (.v x)) rfl, uE_hs])
  rw [q8w, List.length_set, q6j] at h1
  rw [List.length_append, ← Nat.add_assoc]
  exact h1)
 rw [uE_app, xL_len] at h
 exact h
theorem uFB {h : Nat → Option Blkd} (L : Nat) (es : List EN) (new : List NT) (ks : List Int) {R : List EN} (hR : R = es ++ ({ q1d 13 with branches := ks } :: new).map EN.of) (hB : h L = some ⟨true, 3, 1, rA iPV ks⟩) :
  FB [L] h ⟨true, 40, 10, (rA EN.cells (uE es new)).set es.length (opB uN0 L ks.length)⟩ ⟨true, 40, 10, rA EN.cells R⟩ := by
 have hat : ((rA EN.cells (uE es new)).set es.length (opB uN0 L ks.length))[es.length]? = some (opB uN0 L ks.length) := List.getElem?_set_self (by rw [q0a, q6j]; omega)
 have h := FB.set (F := [L]) (h := h) (row := true) (T := 40) (z := 10) hat
  (e' := [.c (.v (.int .i64 13)), .c (.v (.string (str []))), .c (.sl 1 []), .c (.sl 9 []), .c (.sl 1 []), .c (.v (.bool false)), .c (.v (.string (str []))), .c (.v (.int .i64 0)), .c (.v (.int .i64 0)), .c (.sl 1 (ks.map iPV))])
  (.cons (.same _) (.cons (.same _) (.cons (.same _) (.cons (.same _) (.cons (.same _) (.cons (.same _) (.cons (.same _) (.cons (.same _) (.cons (.same _) (.cons (.row (B := ⟨true, 3, 1, rA iPV ks⟩) (es := ks.map iPV) (by simp) hB rfl (q0a _ _) (q4v _ _)) .nil)))))))))) (by simp [AV.cellish])
 rw [List.set_set, uE_done, ← hR] at h
 exact h
theorem z27 (es : List EN) (hl : es.length < 200) (l : List JT) (h1 : 1 ≤ l.length) (h10 : l.length ≤ 10) (a : List UInt8) (fN : JT → List HN → BV) (hK : ∀ x ∈ l, KidOk a x (fN x)) :
  q1c 71 es 0 [.c (.sl 5 (l.map JT.cells)), strV a] (q4o fN (hsE es) l) := by
 have hV : q4o fN (hsE es) l = ({ q1d 13 with branches := (q2x fN (hsE es ++ [(13, [])]) l [] [] 0).1 } :: (q2x fN (hsE es ++ [(13, [])]) l [] [] 0).2.1,
  if (q2x fN (hsE es ++ [(13, [])]) l [] [] 0).2.2.2 = true then (es.length : Int) else 0, (q2x fN (hsE es ++ [(13, [])]) l [] [] 0).2.2.1) := by
  unfold q4o
  rw [if_neg (by omega), if_neg (by rw [hsE, List.length_map]; omega)]
  rw [show (hsE es).length = es.length by rw [hsE, List.length_map]]
 rw [hV]
 clear hV
 obtain ⟨G, hG⟩ : ∃ G, G = q2x fN (hsE es ++ [(13, [])]) l [] [] 0 := ⟨_, rfl⟩
 rw [← hG]
 unfold q1c strV
 obtain ⟨G1, G2, G3, G4⟩ := G
 simp only []
 obtain ⟨R, hR⟩ : ∃ R, R = es ++ ({ q1d 13 with branches := G1 } :: G2).map EN.of := ⟨_, rfl⟩
 obtain ⟨Pl, hPl⟩ : ∃ Pl : Int, Pl = if G4 = true then (es.length : Int) else 0 := ⟨_, rfl⟩
 have hRl : R.length = es.length + 1 + G2.length := by rw [hR]; simp; omega
 rw [← hR, ← hPl, hRl]
 have hFr := z2k es hl
 have hF1 := q15 es es.length rfl 0 34 false
 rw [show fl 0 false 34 = 0 from rfl] at hF1
 have hd1 : decide ((l.length : Int) < 1) = false := by simp; omega
 have hd2 : decide ((l.length : Int) > 10) = false := by simp; omega
 have hF0 : ∀ (es : List EN) (new : List NT) (ks : List Int) (b : Bool), ToldM Tryz.prog 36 [.ref 1000000 1 0 0, .c (.v (.bool b)), .c (.v (.int .i64 34))] [xW (es.length + 1 + new.length) 0, xNB (uE es new) es.length uN0 1000002 ks.length, xL ks] [some (xW (es.length + 1 + new.length) (fl 0 b 34)), some (xNB (uE es new) es.length uN0 1000002 ks.length), some (xL ks)] (.tup []) := fun es new ks b => by
  have h := uOpen es new ks 0 (fl 0 b 34) [] (f := 36) (args := [.ref 1000000 1 0 0, .c (.v (.bool b)), .c (.v (.int .i64 34))]) (y := .tup []) (fun _ _ => .tup (by simp)) (fun E _ _ => by
   simp only [List.map_nil, List.append_nil]
   exact q15 E E.length rfl 0 34 b)
  rw [List.append_nil] at h
  exact h
 have hscU : ∀ (new : List NT) (r m : Nat) {used : Nat → Prop} {h : Nat → Option Blkd}, (∀ e ∈ (rA EN.cells (uE es new)).set es.length (opB uN0 r m), ∀ x ∈ e, Sc used h x) = Sc used h (.row r m) := fun new r m {used} {h} => (q6g (by rw [q6j]; omega) _).trans (q26 uN0 r m)
 have hlen0 : (uE es []).length = es.length + 1 := q6j es []
 have hat0 : (rA EN.cells (uE es []))[es.length]? = some (uN0.cells.map .c) := q6z (uE_at es [])
 unfold xW xN at hFr hF1 ⊢
 refine VC.toldXF (And.intro @q0a (And.intro @q0i hRl)) ent_71 [] Tryz.func71 rfl Tryz.ntmps71 fun hb hbL => ?_
 clear hb hbL
 refine q0d (And.intro hd1 hd2) ?_
 refine q0n (And.intro @q0a @q0b) [1000000, 1000001] (hF1) ?_
 refine q0d (And.intro @q0a @q0b) ?_
 refine q0n (And.intro @q0a @q0b) [1000000, 1000001] (hFr) ?_
 refine q0d (And.intro @q0a @q0b) ?_
 refine VC.nilR 1000001 es.length 9 3 1 ⟨true, 40, 10, rA EN.cells (uE es [])⟩ (uN0.cells.map .c) (by simp only [go_sem, simprocAttr, q0b]) hat0 rfl (by rfl) ?_
 refine VC.loop (ι := {q : Nat × List Int × List NT × Int // q.1 ≤ l.length ∧ q.2.1.length = q.1 ∧ es.length + 1 + q.2.2.1.length ≤ 200 ∧ (∀ o ∈ q.2.1, 0 ≤ o ∧ o < ((es.length + 1 + q.2.2.1.length : Nat) : Int)) ∧ (G1, G2, G3, G4) = q2x fN (hsE es ++ [(13, [])]) (l.drop q.1) q.2.1 q.2.2.1 q.2.2.2})
  (fun q => [(0, .ref 1000000 1 0 0), (1, .c (.sl 5 (l.map JT.cells))), (2, .c (.v (.string (str a)))), (6, .c (.v (.int .i64 0))), (7, .c (.v (.int .i64 (es.length : Int)))), (24, .c (.sl 5 (l.map JT.cells))), (25, .c (.v (.int .i64 (l.length : Int)))), (26, .c (.v (.int .i64 (q.1.1 : Int))))])
  (fun q => [(1000000, ⟨false, 60, 3, [[.row 1000001 (es.length + 1 + q.1.2.2.1.length), .c (.v (.int .i64 0)), .c (.v (.int .i64 q.1.2.2.2))]]⟩), (1000001, ⟨true, 40, 10, (rA EN.cells (uE es q.1.2.2.1)).set es.length (opB uN0 144 q.1.2.1.length)⟩), (144, ⟨true, 3, 1, rA iPV q.1.2.1⟩)]) 2000 (fun q => l.length - q.1.1)
  ⟨(0, [], [], 0), Nat.zero_le _, rfl, by simp; omega, by simp, by rw [List.drop_zero]; exact hG⟩ ?_ ?_
 · simp only [q0a, q0i, q0b, List.length_map, List.length_set, List.length_nil, Nat.add_zero, q6j, q60, hscU, Weak, eq_self, q0x, q0r, sc_c, q0t, q0u, q0v, q0q, q0s, ScL, q0w, List.forall_mem_map, go_sem, Int.reduceBEq, Int.reduceLE, Int.reduceLT, Int.reduceNeg, Nat.reduceAdd, Nat.reduceEqDiff, Nat.reduceLT, Nat.reduceLeDiff, Nat.reduceMul, Nat.reduceSub, reduceCtorEq, ↓reduceIte]
   exact ⟨rfl, Nat.le_refl _⟩
 rintro ⟨⟨i, ks, new, e⟩, hi, hkl, hnl, hks, hGi⟩
 simp only [] at hi hkl hnl hks hGi ⊢
 have hlen : (uE es new).length = es.length + 1 + new.length := q6j es new
 refine q0c ?_
 refine VC.cond (by rfl) (by trivial) (fun hc => ?_) (fun hc => ?_)
 rotate_left
 · have hie : i = l.length := by simp at hc; omega
   rw [hie, List.drop_length] at hGi
   unfold q2x at hGi
   injection hGi with g1 hGi
   injection hGi with g2 hGi
   injection hGi with g3 g4
   subst g1 g2 g3 g4
   rw [if_pos rfl] at hPl
   subst hPl
   refine VC.frz [144] [(7, .c (.v (.int .i64 (es.length : Int))))] [(1000001, ⟨true, 40, 10, rA EN.cells R⟩), (1000000, ⟨false, 60, 3, [[.row 1000001 (es.length + 1 + G2.length), .c (.v (.int .i64 0)), .c (.v (.int .i64 G3))]]⟩)] 3000 ?_ ?_
   · simp only [q0a, q0i, q0b, q0f, q1k, hRl, q5s, q0x, q0r, sc_c, q0t, q0u, q0v, q0q, q0s, ScL, q0w, List.forall_mem_map, go_sem, Int.reduceBEq, Int.reduceLE, Int.reduceLT, Int.reduceNeg, Nat.reduceAdd, Nat.reduceEqDiff, Nat.reduceLT, Nat.reduceLeDiff, Nat.reduceMul, Nat.reduceSub, reduceCtorEq, ↓reduceIte]
     exact ⟨.same _, ⟨uFB 144 es G2 G1 hR (by rfl), .same _⟩, Nat.le_refl _⟩
   refine q0c ?_
   refine q09 (@q0b) Tryz.results71 ?_
   exact .c _
 · have hlt : i < l.length := by simp at hc; omega
   obtain ⟨x, hx⟩ : ∃ x, l[i]? = some x := ⟨l[i], List.getElem?_eq_getElem hlt⟩
   have hkx := hK x (List.mem_of_getElem? hx)
   have hwi : IntKind.i64.wrap ((i : Int) + 1) = (i : Int) + 1 := q1g (by omega) (by omega)
   have hdr : l.drop i = x :: l.drop (i + 1) := by
    obtain ⟨h5, h6⟩ := List.getElem?_eq_some_iff.1 hx
    rw [List.drop_eq_getElem_cons h5, h6]
   rw [hdr] at hGi
   unfold q2x at hGi
   have hhl : (hsE es ++ [(13, [])] ++ new.map q0k).length = es.length + 1 + new.length := by simp [hsE]; omega
   have hsl := stepV_len hkx (hs := hsE es ++ [(13, [])] ++ new.map q0k) (by rw [hhl]; exact hnl) e
   have hspl := fun h => z4o hkx (hs := hsE es ++ [(13, [])] ++ new.map q0k) (by rw [hhl]; exact hnl) (e := e) h
   have hN := fun (hsc : ∀ used h, Sc used h (intV (q1z (fN x) (hsE es ++ [(13, [])] ++ new.map q0k) e).2.1)) => uOpen es new ks e (q1z (fN x) (hsE es ++ [(13, [])] ++ new.map q0k) e).2.2 (q1z (fN x) (hsE es ++ [(13, [])] ++ new.map q0k) e).1 hsc (f := 35) (args := [.ref 1000000 1 0 0, x.av, strV a]) (fun E hEl hEh => by
    have h := hkx.step E (by rw [hEl]; exact hnl) e
    rw [hEh] at h
    exact h)
   replace hN := hN (fun _ _ => .c)
   rw [hhl] at hsl hspl
   generalize q1z (fN x) (hsE es ++ [(13, [])] ++ new.map q0k) e = V at *
   obtain ⟨V1, V2, V3⟩ := V
   simp only [] at hN hGi hsl hspl
   unfold xW xNB xL intV strV at hN
   rw [JT.av_eq x, q03 x] at hN
   have hxp : (l.map JT.cells)[i]? = some x.cells := by rw [List.getElem?_map, hx]; rfl
   rw [q03 x] at hxp
   generalize x.kd = x1 at *
   generalize x.num = x2 at *
   generalize x.txt = x3 at *
   generalize x.its = x4 at *
   generalize x.keys = x5 at *
   have hlen2 : (uE es (new ++ V1)).length = es.length + 1 + (new ++ V1).length := q6j es (new ++ V1)
   refine q0d (hxp) ?_
   ((refine AO.step fun K hK => ?_; simp only [go_sem, Int.reduceBEq, Int.reduceLE, Int.reduceLT, Int.reduceNeg, Nat.reduceAdd, Nat.reduceEqDiff, Nat.reduceLT, Nat.reduceLeDiff, Nat.reduceMul, Nat.reduceSub, reduceCtorEq, ↓reduceIte, q0a, q0b, q0f, q1k, List.length_set, hlen, hlen2]; (first | refine q0g ?_ | skip)); refine .inr (.inr (.inl ⟨?vy1, [1000000, 1000001, 144], ?va1, ?vl1, ?vm1, ?cond1, ?cont1⟩)); (case cond1 => ((repeat' apply And.intro) <;> (try ((with_reducible show ToldM _ _ _ _ _ _); exact hN))); (all_goals first | trivial | (simp only [q0a, q0b, q0f, q1k, List.length_set, hlen, hlen2, go_sem, simprocAttr]; done) | (simp; done) | rfl)); (first | refine hK _ _ _ ?_ | (simp only [q0a, q0b, q0f, q1k, List.length_set, hlen, hlen2, go_sem, simprocAttr]; first | refine hK _ _ _ ?_ | refine ⟨rfl, hK _ _ _ ?_⟩)); clear hK K)
   (repeat (first | refine pass ?_ | refine VC.region (by rfl) (by rfl) ?_ | (refine AO.step fun K hK => ?_; simp only [q0a, q0b, q0f, q1k, List.length_set, hlen2, go_sem, Int.reduceBEq, Int.reduceLE, Int.reduceLT, Int.reduceNeg, Nat.reduceAdd, Nat.reduceEqDiff, Nat.reduceLT, Nat.reduceLeDiff, Nat.reduceMul, Nat.reduceSub, reduceCtorEq, ↓reduceIte]; (first | refine q07 ?_ | refine q0g ?_ | skip); (first | refine hK _ _ _ ?_ | refine ⟨by first | omega | exact ⟨_, rfl, rfl⟩ | exact fun _ => ⟨_, rfl, rfl⟩ | (intro h; simp only [q0a, q0b, q0f, q1k, List.length_set, hlen2, h, true_and]; omega) | (clear hK; intro h; simp_all <;> omega), hK _ _ _ ?_⟩); clear hK K) | refine VC.draw mixP (by rfl) (by rfl) ?_ | refine ⟨q08 (by kernel_rfl), ?_⟩ | refine BQ.other (by decide) ?_ | refine VC.seq ?_ | refine AO.nil ?_ | refine VC.block ?_))
   refine VC.cond (by rfl) (by trivial) (fun hv => ?_) (fun hv => ?_)
   · rw [if_pos (by simpa using hv)] at hGi
     injection hGi with g1 hGi
     injection hGi with g2 hGi
     injection hGi with g3 g4
     subst g1 g2 g3 g4
     rw [if_neg (by simp)] at hPl
     subst hPl
     have hdone := uE_done es (new ++ V1) G1
     rw [← hR] at hdone
     refine VC.frz [144] [] [(1000001, ⟨true, 40, 10, rA EN.cells R⟩), (1000000, ⟨false, 60, 3, [[.row 1000001 (es.length + 1 + (new ++ V1).length), .c (.v (.int .i64 0)), .c (.v (.int .i64 G3))]]⟩)] 3000 ?_ ?_
     · simp only [q0a, q0i, q0b, q0f, q1k, hRl, q5s, q0x, q0r, sc_c, q0t, q0u, q0v, q0q, q0s, ScL, q0w, List.forall_mem_map, go_sem, Int.reduceBEq, Int.reduceLE, Int.reduceLT, Int.reduceNeg, Nat.reduceAdd, Nat.reduceEqDiff, Nat.reduceLT, Nat.reduceLeDiff, Nat.reduceMul, Nat.reduceSub, reduceCtorEq, ↓reduceIte]
       exact ⟨⟨uFB 144 es (new ++ V1) G1 hR (by rfl), .same _⟩, Nat.le_refl _⟩
     refine q0c ?_
     refine q09 (@q0b) Tryz.results71 ?_
     exact .c _
   · have hv0 : V3 = 0 := by simpa using hv
     subst hv0
     rw [if_neg (by simp)] at hGi
     have hpl2 := hspl rfl
     have hBr := z2x (uE_at es (new ++ V1)) 0 V2 hpl2.1 (by rw [hlen2, List.length_append]; omega) ks (by omega) (fun o ho => ⟨(hks o ho).1, by have := (hks o ho).2; rw [hlen2, List.length_append]; omega⟩)
     have hbe : (q2v (hsE (uE es (new ++ V1))) V2.toNat != 13 && !decide (0 ≤ idxP (q52 (hsE (uE es (new ++ V1))) V2 (q2v (hsE (uE es (new ++ V1))) V2.toNat)) ks)) = q4q (hsE es ++ [(13, [])] ++ (new ++ V1).map q0k) ks V2 := by
      rw [← uE_hs]
      unfold q4q
      rw [← j2b]
      rfl
     rw [hbe, hlen2] at hBr
     clear hbe hN hspl
     generalize q4q (hsE es ++ [(13, [])] ++ (new ++ V1).map q0k) ks V2 = b at *
     have hF2 := hF0 es (new ++ V1) ks (!b)
     unfold xW xNB xL at hBr hF2
     obtain ⟨e2, he2⟩ : ∃ e2, e2 = fl 0 (!b) 34 := ⟨_, rfl⟩
     rw [← he2] at hF2
     have he3 : (if b = true then (0 : Int) else 34) = e2 := by rw [he2]; cases b <;> rfl
     rw [he3] at hGi
     clear he2 he3 hF0
     have hat : ((rA EN.cells (uE es (new ++ V1))).set es.length (opB uN0 144 ks.length))[es.length]? = some [.c (.v (.int .i64 13)), .c (.v (.string (str []))), .c (.sl 1 []), .c (.sl 9 []), .c (.sl 1 []), .c (.v (.bool false)), .c (.v (.string (str []))), .c (.v (.int .i64 0)), .c (.v (.int .i64 0)), .row 144 ks.length] := (List.getElem?_set_self (by rw [q0a, hlen2]; omega)).trans (congrArg some (uC_eq 144 ks.length))
     have hone : rA iPV ks ++ [[.c (.v (.int .i64 V2))]] = rA iPV (ks ++ [V2]) := q83 iPV ks V2
     have h0l : (0 : Int) ≤ (es.length : Int) := by omega
     have hll : (es.length : Int) < ((es.length + 1 + (new ++ V1).length : Nat) : Int) := by omega
     (repeat (first | refine pass ?_ | refine VC.region (by rfl) (by rfl) ?_ | (refine AO.step fun K hK => ?_; simp only [q0a, q0b, q0f, q1k, List.length_set, hlen2, hat, h0l, hll, go_sem, Int.reduceBEq, Int.reduceLE, Int.reduceLT, Int.reduceNeg, Nat.reduceAdd, Nat.reduceEqDiff, Nat.reduceLT, Nat.reduceLeDiff, Nat.reduceMul, Nat.reduceSub, reduceCtorEq, ↓reduceIte]; (first | refine q07 ?_ | refine q0g ?_ | skip); (first | refine hK _ _ _ ?_ | refine ⟨by first | omega | exact ⟨_, rfl, rfl⟩ | exact fun _ => ⟨_, rfl, rfl⟩ | (intro h; simp only [q0a, q0b, q0f, q1k, List.length_set, hlen2, hat, h0l, hll, h, true_and]; omega) | (clear hK; intro h; simp_all <;> omega), hK _ _ _ ?_⟩); clear hK K) | refine VC.draw mixP (by rfl) (by rfl) ?_ | refine ⟨q08 (by kernel_rfl), ?_⟩ | refine BQ.other (by decide) ?_ | refine VC.seq ?_ | refine AO.nil ?_ | refine VC.block ?_))
     ((refine AO.step fun K hK => ?_; simp only [go_sem, Int.reduceBEq, Int.reduceLE, Int.reduceLT, Int.reduceNeg, Nat.reduceAdd, Nat.reduceEqDiff, Nat.reduceLT, Nat.reduceLeDiff, Nat.reduceMul, Nat.reduceSub, reduceCtorEq, ↓reduceIte, q0a, q0b, q0f, q1k, List.length_set, hlen2]; (first | refine q0g ?_ | skip)); refine .inr (.inr (.inl ⟨?vy2, [1000000, 1000001, 144], ?va2, ?vl2, ?vm2, ?cond2, ?cont2⟩)); (case cond2 => ((repeat' apply And.intro) <;> (try ((with_reducible show ToldM _ _ _ _ _ _); exact hBr))); (all_goals first | trivial | (simp only [q0a, q0b, q0f, q1k, List.length_set, hlen2, go_sem, simprocAttr]; done) | (simp; done) | rfl)); (first | refine hK _ _ _ ?_ | (simp only [q0a, q0b, q0f, q1k, List.length_set, hlen2, go_sem, simprocAttr]; first | refine hK _ _ _ ?_ | refine ⟨rfl, hK _ _ _ ?_⟩)); clear hK K)
     (repeat (first | refine pass ?_ | refine VC.region (by rfl) (by rfl) ?_ | (refine AO.step fun K hK => ?_; simp only [q0a, q0b, q0f, q1k, List.length_set, hlen2, hat, h0l, hll, go_sem, Int.reduceBEq, Int.reduceLE, Int.reduceLT, Int.reduceNeg, Nat.reduceAdd, Nat.reduceEqDiff, Nat.reduceLT, Nat.reduceLeDiff, Nat.reduceMul, Nat.reduceSub, reduceCtorEq, ↓reduceIte]; (first | refine q07 ?_ | refine q0g ?_ | skip); (first | refine hK _ _ _ ?_ | refine ⟨by first | omega | exact ⟨_, rfl, rfl⟩ | exact fun _ => ⟨_, rfl, rfl⟩ | (intro h; simp only [q0a, q0b, q0f, q1k, List.length_set, hlen2, hat, h0l, hll, h, true_and]; omega) | (clear hK; intro h; simp_all <;> omega), hK _ _ _ ?_⟩); clear hK K) | refine VC.draw mixP (by rfl) (by rfl) ?_ | refine ⟨q08 (by kernel_rfl), ?_⟩ | refine BQ.other (by decide) ?_ | refine VC.seq ?_ | refine AO.nil ?_ | refine VC.block ?_))
     ((refine AO.step fun K hK => ?_; simp only [go_sem, Int.reduceBEq, Int.reduceLE, Int.reduceLT, Int.reduceNeg, Nat.reduceAdd, Nat.reduceEqDiff, Nat.reduceLT, Nat.reduceLeDiff, Nat.reduceMul, Nat.reduceSub, reduceCtorEq, ↓reduceIte, q0a, q0b, q0f, q1k, List.length_set, hlen2]; (first | refine q0g ?_ | skip)); refine .inr (.inr (.inl ⟨?vy3, [1000000, 1000001, 144], ?va3, ?vl3, ?vm3, ?cond3, ?cont3⟩)); (case cond3 => ((repeat' apply And.intro) <;> (try ((with_reducible show ToldM _ _ _ _ _ _); exact hF2))); (all_goals first | trivial | (simp only [q0a, q0b, q0f, q1k, List.length_set, hlen2, go_sem, simprocAttr]; done) | (simp; done) | rfl)); (first | refine hK _ _ _ ?_ | (simp only [q0a, q0b, q0f, q1k, List.length_set, hlen2, go_sem, simprocAttr]; first | refine hK _ _ _ ?_ | refine ⟨rfl, hK _ _ _ ?_⟩)); clear hK K)
     (repeat (first | refine pass ?_ | refine VC.region (by rfl) (by rfl) ?_ | (refine AO.step fun K hK => ?_; simp only [q0a, q0b, q0f, q1k, List.length_set, hlen2, hat, hone, List.set_set, hwi, h0l, hll, go_sem, Int.reduceBEq, Int.reduceLE, Int.reduceLT, Int.reduceNeg, Nat.reduceAdd, Nat.reduceEqDiff, Nat.reduceLT, Nat.reduceLeDiff, Nat.reduceMul, Nat.reduceSub, reduceCtorEq, ↓reduceIte]; (first | refine q07 ?_ | refine q0g ?_ | skip); (first | refine hK _ _ _ ?_ | refine ⟨by first | omega | exact ⟨_, rfl, rfl⟩ | exact fun _ => ⟨_, rfl, rfl⟩ | (intro h; simp only [q0a, q0b, q0f, q1k, List.length_set, hlen2, hat, hone, List.set_set, hwi, h0l, hll, h, true_and]; omega) | (clear hK; intro h; simp_all <;> omega), hK _ _ _ ?_⟩); clear hK K) | refine VC.draw mixP (by rfl) (by rfl) ?_ | refine ⟨q08 (by kernel_rfl), ?_⟩ | refine BQ.other (by decide) ?_ | refine VC.seq ?_ | refine AO.nil ?_ | refine VC.block ?_))
     refine .next ⟨(i + 1, ks ++ [V2], new ++ V1, e2), by simp only []; omega, by simp only [List.length_append, List.length_singleton]; omega, by simp only [List.length_append]; omega, fun o ho => ?_, hGi⟩ ?_ (by simp only []; omega)
     · simp only [List.mem_append, List.mem_singleton] at ho
       simp only [List.length_append]
       rcases ho with ho | rfl
       · have := hks o ho
         omega
       · have := hpl2
         omega
     simp only [q0a, q0i, q0b, q0f, q1k, List.length_map, List.length_set, hlen2, hscU, List.length_append, List.length_singleton, Weak, eq_self, q0x, q0r, sc_c, q0t, q0u, q0v, q0q, q0s, ScL, q0w, List.forall_mem_map, go_sem, Int.reduceBEq, Int.reduceLE, Int.reduceLT, Int.reduceNeg, Nat.reduceAdd, Nat.reduceEqDiff, Nat.reduceLT, Nat.reduceLeDiff, Nat.reduceMul, Nat.reduceSub, reduceCtorEq, ↓reduceIte]
     exact ⟨cI (by omega), rfl, Nat.le_refl _, Nat.le_refl _⟩
end
end Go.Proofs.YthkofkaocipomaaGreatDoor
