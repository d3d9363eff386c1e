/- Texts that lead to the law BuildWords, joined. -/
import Derived.Test.YthkofkaocipomaaGreatDoorPkBuildWordsXEz
import Derived.Test.YthkofkaocipomaaGreatDoorPkBuildWordsA
import Derived.Test.YthkofkaocipomaaGreatDoorPkBuildWordsB
import Derived.Test.YthkofkaocipomaaGreatDoorPkBuildWordsXAbB
import Derived.ProofKit
import Derived.OpenShut
import Derived.ChangeOld
import Derived.Below
import Derived.Test.YthkofkaocipomaaGreatDoorRows
import Derived.MakeChecks
import Derived.LaidMore
namespace Go.Proofs.YthkofkaocipomaaGreatDoor
set_option maxRecDepth 100000
set_option maxHeartbeats 6400000
open Go.RowKit
set_option linter.unusedVariables false
set_option linter.unusedSimpArgs false

def w12J : JT := objJ [(q1c, q11 [114, 101, 99, 111, 114, 100]), (q1r, q11 [114]), (q1b, q11 [110]), (q46, listJ [objJ [(q1r, q11 [102]), (q1c, listJ [q11 [110, 117, 108, 108], q11 [114]])]])]
theorem w12_right : jR w12J = true := by
 rw [q56]
 decide +kernel
theorem w12_sm : w12J.sm 4294967296 := by
 simp [w12J, objJ, listJ, q11, JT.sm, JT.smL, q1c, q1r, q1b, q46]
def w12B : List UInt8 := [123, 34, 116, 121, 112, 101, 34, 58, 34, 114, 101, 99, 111, 114, 100, 34, 44, 34, 110, 97, 109, 101, 34, 58, 34, 114, 34, 44, 34, 110, 97, 109, 101, 115, 112, 97, 99, 101, 34, 58, 34, 110, 34, 44,
 34, 102, 105, 101, 108, 100, 115, 34, 58, 91, 123, 34, 110, 97, 109, 101, 34, 58, 34, 102, 34, 44, 34, 116, 121, 112, 101, 34, 58, 91, 34, 110, 117, 108, 108, 34, 44, 34, 114, 34, 93, 125, 93, 125]
def nP : PV := .v (.slice none 0 0)
def txP (l : List UInt8) : List PV := [.v (.int .i64 4), .v (.int .i64 0), .v (.string ⟨l.toArray⟩), nP, nP]
def lsP (l : List (List PV)) : List PV := [.v (.int .i64 5), .v (.int .i64 0), .v (.string ⟨#[]⟩), .sl 5 l, nP]
def obP (k : List (List UInt8)) (l : List (List PV)) : List PV := [.v (.int .i64 6), .v (.int .i64 0), .v (.string ⟨#[]⟩), .sl 5 l, .sl 1 (k.map fun x => [.v (.string ⟨x.toArray⟩)])]
def w12P : List PV := obP [q1c, q1r, q1b, q46] [txP [114, 101, 99, 111, 114, 100], txP [114], txP [110], lsP [obP [q1r, q1c] [txP [102], lsP [txP [110, 117, 108, 108], txP [114]]]]]
def isOi (l : List Nat) : FuncId → Bool := fun f => Nat.beq f 155 || Nat.beq f 139 || l.any (Nat.beq f)
def orci (l : List (FuncId × List AV × AV)) : FuncId → List AV → Option AV := fun f a => match Nat.beq f 155, Nat.beq f 139, a with
 | true, _, [.c (.v (.string s)), .c (.v (.int .u8 b))] => some (.c (.v (.int .i64 (Lib.indexByte s.data.toList b.toNat.toUInt8))))
 | _, true, [.c (.v (.string s)), .c (.v (.string t))] => match Ex.sEq t ⟨#[46]⟩ with | true => some (.c (.v (.int .i64 (Lib.indexByte s.data.toList 46)))) | false => none
 | _, _, _ => Ex.orcL l f a
theorem orci_ok {l : List (FuncId × List AV × AV)} (hl : ∀ p ∈ l, ToldM Tryz.prog p.1 p.2.1 [] [] p.2.2) : ∀ f args y, orci l f args = some y → ToldM Tryz.prog f args [] [] y := by
 intro f args y h
 unfold orci at h
 split at h
 · rename_i h1
   rw [Nat.beq_eq] at h1
   subst h1
   obtain rfl := Option.some.inj h
   exact (j2i _ _).m rfl rfl
 · rename_i h1
   rw [Nat.beq_eq] at h1
   subst h1
   split at h
   · rename_i h2
     obtain rfl := Option.some.inj h
     rw [Ex.sEq_ok h2]
     have h3 : ∀ s : ByteArray, ToldM Tryz.prog 139 [.c (.v (.string s)), .c (.v (.string ⟨#[46]⟩))] [] [] (.c (.v (.int .i64 (Lib.indexByte s.data.toList 46)))) := fun s => by
      have := j2j s.data.toList
      rw [str_of] at this
      exact this.m rfl rfl
     exact h3 _
   · simp at h
 · exact Ex.orcL_ok hl h
def envi (P : Program) (fz : List Nat) (l : List (FuncId × List AV × AV)) : Ex.Env := Ex.env P (isOi (l.map (·.1))) (fun f => fz.any (Nat.beq f)) (orci l)
theorem run_i {fz : List Nat} {l : List (FuncId × List AV × AV)} (hl : ∀ p ∈ l, ToldM Tryz.prog p.1 p.2.1 [] [] p.2.2) {n : Nat} {f : FuncId} {args : List AV} {y : AV} (h : Ex.runF (envi Tryz.prog fz l) (Ex.ex (envi Tryz.prog fz l) n) f args [] = .ok ([], y)) : ToldM Tryz.prog f args [] [] y :=
 Ex.run_told (Ex.env_ok mixP (orci_ok hl)) h
theorem w12_parse : ToldM Tryz.prog 33 [.c (.sl 1 (q1s w12B))] [] [] (.tup [.agg (w12P.map .c), .c (.v (.int .i64 0))]) :=
 run_i (fz := [33]) (l := []) (by simp) (n := 3000) (by kernel_rfl)
theorem w12_r : ToldM Tryz.prog 34 [w12J.av] [] [] (.c (.v (.bool true))) := by
 have := j2l w12J w12_sm
 rw [w12_right] at this
 exact this.m (by simp [JT.av_eq, AV.pureL, AV.pureB, q16]) rfl

theorem w12_all : ToldM Tryz.prog 12 [] [] [] (.c (.v (.bool true))) :=
 run_i (fz := []) (l := [(33, [.c (.sl 1 (q1s w12B))], .tup [.agg (w12P.map .c), .c (.v (.int .i64 0))]), (34, [w12J.av], .c (.v (.bool true)))])
  (fun p hp => by
   simp only [List.mem_cons, List.not_mem_nil, or_false] at hp
   rcases hp with rfl | rfl
   · exact w12_parse
   · exact w12_r) (n := 3000) (by kernel_rfl)
theorem j6o : Told Tryz.prog 12 [] (.c (.v (.bool true))) := w12_all.told rfl rfl

structure Fits (full : List NT) (hs : List HN) (new : List NT) : Prop where
 heads : ∀ (i : Nat) (h : HN), hs[i]? = some h → ∃ n, full[i]? = some n ∧ q4d n = h
 nodes : ∀ (i : Nat) (n : NT), new[i]? = some n → full[hs.length + i]? = some n
theorem Fits.kind {full : List NT} {hs : List HN} {new : List NT} (h : Fits full hs new) {k : Nat} (hk : k < hs.length) : q3o full k = kindH hs k := by
 obtain ⟨n, h1, h2⟩ := h.heads k _ (List.getElem?_eq_getElem hk)
 unfold q3o kindH
 rw [h1, List.getElem?_eq_getElem hk, ← h2]
 rfl
theorem Fits.left {full : List NT} {hs : List HN} {a b : List NT} (h : Fits full hs (a ++ b)) : Fits full hs a :=
 ⟨h.heads, fun i n hn => h.nodes i n (by rw [List.getElem?_append_left (List.getElem?_eq_some_iff.1 hn).1]; exact hn)⟩
theorem Fits.right {full : List NT} {hs : List HN} {a b : List NT} (h : Fits full hs (a ++ b)) : Fits full (hs ++ a.map q4d) b := by
 refine ⟨fun i x hx => ?_, fun i n hn => ?_⟩
 · by_cases hi : i < hs.length
   · rw [List.getElem?_append_left hi] at hx
     exact h.heads i x hx
   · rw [List.getElem?_append_right (by omega), List.getElem?_map] at hx
     obtain ⟨n, h1, rfl⟩ := Option.map_eq_some_iff.1 hx
     have := h.nodes (i - hs.length) n (by rw [List.getElem?_append_left (List.getElem?_eq_some_iff.1 h1).1]; exact h1)
     rw [show hs.length + (i - hs.length) = i by omega] at this
     exact ⟨n, this, rfl⟩
 · have := h.nodes (a.length + i) n (by rw [List.getElem?_append_right (by omega), show a.length + i - a.length = i by omega]; exact hn)
   rw [List.length_append, List.length_map, Nat.add_assoc]
   exact this
def OrdN (d : Nat) (hs : List HN) (new : List NT) (k : Int) : Prop :=
 (new = [] ∧ 0 ≤ k ∧ k < (hs.length : Int) ∧ q2z (kindH hs k.toNat) = true) ∨
 (k = (hs.length : Int) ∧ new ≠ [] ∧ hs.length + new.length ≤ 200 ∧ ∀ full, Fits full hs new → q13 full d hs.length = (true, hs.length + new.length))
theorem OrdN.len {d : Nat} {hs : List HN} {new : List NT} {k : Int} (hl : hs.length ≤ 200) (h : OrdN d hs new k) : hs.length + new.length ≤ 200 := by
 rcases h with ⟨rfl, _⟩ | ⟨_, _, h, _⟩
 · simpa using hl
 · exact h
theorem OrdN.lt {d : Nat} {hs : List HN} {new : List NT} {k : Int} (h : OrdN d hs new k) : 0 ≤ k ∧ k < ((hs.length + new.length : Nat) : Int) := by
 rcases h with ⟨rfl, h1, h2, _⟩ | ⟨rfl, h1, _⟩
 · simp; omega
 · have := List.length_pos_iff.2 h1
   omega
theorem OrdN.step {d : Nat} {hs : List HN} {new : List NT} {k : Int} (h : OrdN d hs new k) {full : List NT} (hf : Fits full hs new) {ks : List Int} {q : Nat} (hr : q2u full (q13 full d) ks (hs.length + new.length) = (true, q)) :
  q2u full (q13 full d) (k :: ks) hs.length = (true, q) := by
 rw [q2u]
 rcases h with ⟨rfl, h1, h2, h3⟩ | ⟨rfl, _, _, h⟩
 · rw [if_neg (by omega), if_neg (by
    rw [hf.kind (by omega), h3]
    simp
    omega)]
   simpa using hr
 · rw [if_pos rfl, h full hf]
   simpa using hr

/-! Trees' parts. -/
theorem jget_its {j i : JT} {key : List UInt8} (h : jget j key = some i) : j.kd = 6 ∧ i ∈ j.its := by
 cases j with
 | mk k n s ks xs =>
   unfold jget at h
   simp only [] at h
   split at h
   · rename_i hk
     exact ⟨hk.1, List.mem_of_getElem? h⟩
   · simp at h
structure Ok (D : Nat) (j : JT) : Prop where
 shape : q3h j = true
 deep : q1q j ≤ D
theorem j3n : ∀ {xs : List JT}, q3i xs = true → ∀ x ∈ xs, q3h x = true
 | x :: xs, h, y, hy => by
   rw [q3i, Bool.and_eq_true] at h
   rcases List.mem_cons.1 hy with rfl | hy
   · exact h.1
   · exact j3n h.2 y hy
theorem Ok.item {D : Nat} {j x : JT} (h : Ok D j) (hk : j.kd = 5 ∨ j.kd = 6) (hx : x ∈ j.its) : 1 ≤ D ∧ Ok (D - 1) x := by
 obtain ⟨h1, h2⟩ := h
 cases j with
 | mk k n s ks xs =>
   simp only [JT.kd, JT.its] at hk hx
   rw [q1q, if_pos hk] at h2
   have := (j3y xs 1).2 x hx
   rw [q3h, Bool.and_eq_true] at h1
   exact ⟨by omega, j3n h1.2 x hx, by omega⟩
theorem Ok.get {D : Nat} {j x : JT} (h : Ok D j) {key : List UInt8} (hx : jget j key = some x) : 1 ≤ D ∧ Ok (D - 1) x := by
 obtain ⟨h1, h2⟩ := jget_its hx
 exact h.item (.inr h1) h2
theorem Ok.right {D : Nat} {j : JT} (h : Ok D j) (hD : D ≤ 32) : jR j = true := by
 rw [q56, h.shape]
 have := h.deep
 simp
 omega
theorem Ok.mono {D E : Nat} {j : JT} (h : Ok D j) (he : D ≤ E) : Ok E j := ⟨h.shape, Nat.le_trans h.deep he⟩
/-! Names. -/
/-! Nodes. -/

/-! Names are not told twice. -/

/-! How much a tree's depth lets it be built with. -/
/-! Places behind one more node. -/

def q55 (s : ST) : Bool := (List.range s.nodes.length).any fun i => decide (1000 < wOf s.nodes i)
theorem heavy_no {s : ST} (h : q55 s = false) : ∀ i, i < s.nodes.length → wOf s.nodes i ≤ 1000 := fun i hi => by
 unfold q55 at h
 rw [List.any_eq_false] at h
 have := h i (List.mem_range.2 hi)
 simpa using this
theorem heavy_of {s : ST} (h : ∀ i, i < s.nodes.length → wOf s.nodes i ≤ 1000) : q55 s = false := by
 unfold q55
 rw [List.any_eq_false]
 intro i hi
 have := h i (List.mem_range.1 hi)
 simpa using this
/-! A refusal has a number. -/
/-! A union of one. -/

theorem j1k {l : List UInt8} (h : ∀ c ∈ l, c.toNat < 128) : ∀ (n p k : Nat), l.length - p ≤ n → (uCnt l p k).2 = 0
 | 0, p, k, hn => by rw [j0u (by omega)]
 | n + 1, p, k, hn => by
   by_cases hp : p < l.length
   · have hb : q1w l p = l[p] := by simp [q1w, hp]
     have hf : q1g (q1w l p) = 1 := by
      rw [hb]
      unfold q1g
      rw [if_pos (h _ (List.getElem_mem hp))]
     have he : uerr l p = 0 := by
      unfold uerr
      rw [if_pos hp, hf]
      rfl
     have hl : ulen l p = 1 := hf
     rw [j32 hp he, hl]
     exact j1k h n (p + 1) (k + 1) (by omega)
   · rw [j0u hp]
theorem j4k {l : List UInt8} (h : ∀ c ∈ l, c.toNat < 128) : q15 l = true := by
 unfold q15
 rw [j1k h l.length 0 0 (by omega)]
 rfl
theorem kindM_at {w : List UInt8} {k : Nat} (h : q0h w = k) (hk : 1 ≤ k) : q2s[k]? = some w := by
 unfold q0h at h
 split at h
 · omega
 · split at h
   · rename_i i hi
     subst h
     obtain ⟨h1, h2, _⟩ := List.findIdx?_eq_some_iff_getElem.1 hi
     rw [List.getElem?_eq_getElem h1]
     simpa using h2
   · omega
theorem j2p {w : List UInt8} (h : 1 ≤ q0h w) : q15 w = true := by
 have h1 := kindM_at rfl h
 have h2 := (List.getElem?_eq_some_iff.1 h1).1
 have : ∀ x ∈ q2s, ∀ c ∈ x, c.toNat < 128 := by decide
 exact j4k (this w (List.mem_of_getElem? h1))
theorem heavy_one {n : NT} (hf : n.fields = []) : q55 ⟨[n], 0⟩ = false := by
 refine heavy_of fun i hi => ?_
 have : i = 0 := by simpa using hi
 subst this
 have hfa : q2v [n] 0 = [] := by unfold q2v; simp [hf]
 unfold wOf
 simp only [List.length_singleton, List.replicate_succ, List.replicate_zero]
 rw [q1n, show knAt [0] 0 = 0 from rfl, if_neg (by decide), if_neg (by decide), hfa, q2i]
 decide
theorem text_jR (w : List UInt8) : jR (q11 w) = q15 w := by
 rw [q56]
 have : q1q (q11 w) = 0 := by simp [q11, q1q]
 rw [this, q11, q3h, q3i]
 simp [q5r]
theorem obj_jR (l : List (List UInt8 × JT)) (hk : ∀ p ∈ l, q15 p.1 = true) (hn : (l.map Prod.fst).Nodup) (hx : ∀ p ∈ l, jR p.2 = true ∧ q1q p.2 = 0) : jR (objJ l) = true := by
 have hs : q3i (l.map Prod.snd) = true := by
  have : ∀ xs : List JT, (∀ x ∈ xs, q3h x = true) → q3i xs = true := by
   intro xs
   induction xs with
   | nil => intro _; rfl
   | cons x xs ih => intro h; rw [q3i, h x (by simp), ih fun y hy => h y (by simp [hy])]; rfl
  refine this _ fun x hx' => ?_
  obtain ⟨p, hp, rfl⟩ := List.mem_map.1 hx'
  have := (hx p hp).1
  rw [q56, Bool.and_eq_true] at this
  exact this.2
 have hd : q1q (objJ l) ≤ 32 := by
  rw [objJ, q1q, if_pos (.inr rfl)]
  exact j3z _ 1 _ (by omega) fun x hx' => by
   obtain ⟨p, hp, rfl⟩ := List.mem_map.1 hx'
   have := (hx p hp).2
   omega
 rw [q56, objJ, q3h, hs]
 rw [objJ] at hd
 have hr : q5r (.mk 6 0 [] (l.map Prod.fst) (l.map Prod.snd)) = false := by simp [q5r, j3k]
 rw [hr]
 simp only [Bool.not_false, Bool.true_and, Bool.and_true, Bool.and_eq_true, decide_eq_true_eq, List.all_eq_true]
 exact ⟨hd, fun k hk' => by obtain ⟨p, hp, rfl⟩ := List.mem_map.1 hk'; exact hk p hp, hn⟩
def wobj (w : List UInt8) : JT := objJ [(q1c, q11 w)]
/-! Names with a space of their own. -/

theorem j5k {s : ST} (h : q3r s = true) : ∀ n ∈ s.nodes, n.kind = 9 → ∀ f ∈ n.fields, 0 ≤ f.type ∧ f.type < (s.nodes.length : Int) := fun n hn h9 f hf =>
 j5g h n hn f.type (by rw [q2r, if_pos h9]; exact List.mem_map.2 ⟨f, hf, rfl⟩)
section
attribute [local go_sem] opx opE ev okx q3z bnd okO AV.get AV.okb cAV q7n q80 q8z j00 q5v q8t q8s st q7t q4s q7x q7y q7w binV binI binS q3a q38 q30 q39 unV q4o q2y q2d q0k q1a Blkd.len setE grown q0t q3g q2e q1x pv q3m q2k q29 AV.cellish AV.pureL AV.pureB q8p q78 AV.ren AV.renL renL_c Blkd.ren rho wrM renN q1m rhoE q27 q3c tyA_2 tyA_3 tyA_4 tyA_5 tyA_6 tyA_7 tyA_8 tyA_9 tyA_10 tyA_11 tyA_12 tyA_13 tyA_14 tyA_15 tyA_16 tyA_17 tyA_18 tyA_19 tyA_21 tyA_22 tyA_23 tyA_24 tyA_25 tyA_28 tyA_29 tyA_30 tyA_31 tyA_37 tyA_38 tyA_39 tyA_40 tyA_47 tyA_50 tyA_58 tyA_59 tyA_60 tyA_64 tyA_65 tyA_66 tyA_71 tyA_72 tyA_88 tyA_89 tyA_90 tyA_91 tyA_99 q9c q9d q9e q9f q9g q9h q9i q9j q9k q9l q9m q9n q9o q9p q9q q9r q9s q9t q9u q9v q9w q9x q9y q9z q90 q91 q92 q93 q94 q95 q96 q97 q98 q99 j0a j0b j0c j0d j0e j0f j0g j0h j0i j0j j0k j0l j0m j0n j0o j0p j0q j0r j0s j0t Option.map_some Option.map_none Option.getD_some Option.getD_none Option.bind_some Option.bind_none List.getElem?_cons_zero List.getElem?_cons_succ List.getElem?_nil List.getElem?_toArray List.length_cons List.length_nil List.length_map List.forall_mem_map List.map_cons List.map_nil List.drop_zero List.drop_succ_cons List.drop_nil List.take_zero List.take_succ_cons List.take_nil List.mem_cons List.not_mem_nil or_false forall_eq_or_imp forall_eq List.set_cons_zero List.set_cons_succ List.cons_append List.nil_append List.append_nil List.foldl_cons List.foldl_nil List.replicate_succ List.replicate_zero List.all_cons List.all_nil if_true if_false Bool.false_eq_true ne_eq not_false_eq_true not_true_eq_false true_and and_true and_self true_implies imp_self implies_true forall_const beq_self_eq_true Bool.and_true Bool.true_and Bool.and_false Bool.false_and Bool.or_true Bool.true_or Bool.or_false Bool.false_or Bool.not_true Bool.not_false Bool.not_eq_eq_eq_not q4w Value.oneCell' Int.toNat_natCast beq_true beq_false Bool.not_eq_true false_implies false_or true_or or_true Nat.zero_add Nat.add_zero decide_true decide_false Int.cast_ofNat_Int Int.toNat_zero Int.toNat_one eq_self

theorem j5s (s : ST) (hsm : s.sm 1000000) (ho : q3r s = true) (p : Nat) (hp : p < s.nodes.length) : Told Tryz.prog 37 [s.av, .c (.v (.int .i64 (p : Int)))] (.c (.v (.int .i64 (wOf s.nodes p)))) := by
 obtain ⟨hl, hs⟩ := hsm
 have hO := j5i s hl hs
 rw [ho] at hO
 have hW := j6m s hl hs (j5k ho) (s.nodes.length + 1) p (List.replicate s.nodes.length 0) hp (by simp) (fun x hx => by obtain rfl := (List.mem_replicate.1 hx).2; decide) (by have := List.count_le_length (a := (0 : Int)) (l := List.replicate s.nodes.length 0); simp at this ⊢)
 have hwl : (rA iPV (q1n s.nodes (s.nodes.length + 1) p (List.replicate s.nodes.length 0)).2).length = s.nodes.length := by
  rw [q0b]
  exact (j0z s.nodes (s.nodes.length + 1) p _ (by simp) (fun x hx => by obtain rfl := (List.mem_replicate.1 hx).2; decide)).1
 obtain ⟨V, hV⟩ : ∃ V, V = wOf s.nodes p := ⟨_, rfl⟩
 rw [← hV]
 unfold wOf at hV
 rw [← hV] at hW
 generalize (q1n s.nodes (s.nodes.length + 1) p (List.replicate s.nodes.length 0)).2 = D at hW hwl
 clear hV
 rw [rA_rep] at hW
 simp only [ST.av_eq, q43, List.map_cons, List.map_nil] at hO hW
 have f0 : decide ((p : Int) < 0) = false := by simp
 have f1 : decide ((p : Int) ≥ (s.nodes.length : Int)) = false := by simp; omega
 rw [ST.av_eq, q43]
 refine VC.toldP ent_37 Tryz.func37 rfl Tryz.ntmps37 fun hb => ?_
 clear hb
 refine q0c (And.intro f0 f1) ?_
 refine q0n (hO) ?_
 (repeat (first | refine pass ?_ | refine VC.region (by rfl) (by rfl) ?_ | (refine AO.step fun K hK => ?_; simp only [List.length_replicate, go_sem, Int.reduceBEq, Int.reduceLE, Int.reduceLT, Int.reduceNeg, Nat.reduceAdd, Nat.reduceEqDiff, Nat.reduceLT, Nat.reduceLeDiff, Nat.reduceMul, Nat.reduceSub, reduceCtorEq, ↓reduceIte]; (first | refine q1y ?_ | refine q0r ?_ | skip); (first | refine hK _ _ _ ?_ | refine ⟨by first | omega | exact ⟨_, rfl, rfl⟩ | exact fun _ => ⟨_, rfl, rfl⟩ | (intro h; simp only [List.length_replicate, h, true_and]; omega) | (clear hK; intro h; simp_all <;> omega), hK _ _ _ ?_⟩); clear hK K) | refine VC.draw mixP (by rfl) (by rfl) ?_ | refine ⟨q10 (by kernel_rfl), ?_⟩ | refine BQ.other (by decide) ?_ | refine VC.seq ?_ | refine AO.nil ?_ | refine VC.block ?_ | refine VC.condT (by rfl) (by trivial) ?_ | refine VC.condF (by rfl) (by trivial) ?_))
 ((refine AO.step fun K hK => ?_; simp only [go_sem, Int.reduceBEq, Int.reduceLE, Int.reduceLT, Int.reduceNeg, Nat.reduceAdd, Nat.reduceEqDiff, Nat.reduceLT, Nat.reduceLeDiff, Nat.reduceMul, Nat.reduceSub, reduceCtorEq, ↓reduceIte, q0d, List.length_replicate, List.map_replicate]; (first | refine q0r ?_ | skip)); refine .inr (.inr (.inl ⟨?vy1, [168], ?va1, ?vl1, ?vm1, ?cond1, ?cont1⟩)); (case cond1 => ((repeat' apply And.intro) <;> (try ((with_reducible show ToldM _ _ _ _ _ _); exact hW))); (all_goals first | trivial | (simp only [q0d, List.length_replicate, List.map_replicate, go_sem, simprocAttr]; done) | (simp; done) | rfl)); (first | refine hK _ _ _ ?_ | (simp only [q0d, List.length_replicate, List.map_replicate, go_sem, simprocAttr]; first | refine hK _ _ _ ?_ | refine ⟨rfl, hK _ _ _ ?_⟩)); clear hK K)
 refine q0a ?_
 refine retX Tryz.results37 ?_
 exact .c _

noncomputable def ceq {α : Type} (a b : α) : Bool := @decide (a = b) (Classical.propDecidable _)
theorem q4b {α : Type} (a b : α) : ceq a b = true ↔ a = b := by simp [ceq]
theorem q6p {α : Type} (a b : α) : ceq a b = false ↔ a ≠ b := by simp [ceq]
theorem q73 {α : Type} (a : α) : ceq a a = true := (q4b a a).2 rfl

theorem j45 (ks ls : List Int) : Told Tryz.prog 48 [.c (.sl 1 (ks.map iPV)), .c (.sl 1 (ls.map iPV))] (.c (.v (.bool (ks == ls)))) := by
 refine VC.told ent_48 Tryz.func48 rfl Tryz.ntmps48 (by simp) rfl rfl fun hb => ?_
 simp only [q3l, q3t, List.mem_cons, List.not_mem_nil, or_false, forall_eq_or_imp, forall_eq, List.length_map] at hb
 have h1 := hb.1.1
 have h2 := hb.2.1
 clear hb
 refine q0a ?_
 refine VC.cond (by rfl) (by trivial) (fun hc => ?_) (fun hc => ?_)
 · have hne : (ks == ls) = false := by
    rw [beq_eq_false_iff_ne]
    intro e
    subst e
    simp at hc
   refine q0a ?_
   refine ⟨.inr rfl, ?_⟩
   rw [Tryz.results48, hne]
   simp only [q0p, resV, go_sem, simprocAttr]
   exact .c _
 · have hlen : ks.length = ls.length := by
    simp at hc
    omega
   refine q0a ?_
   refine VC.loop (ι := {i : Nat // i ≤ ks.length ∧ ks.take i = ls.take i}) (fun i => [(0, .c (.sl 1 (ks.map iPV))), (1, .c (.sl 1 (ls.map iPV))), (12, .c (.v (.int .i64 ks.length))), (13, .c (.v (.int .i64 i.1)))]) (fun _ => []) 0 (fun i => ks.length - i.1) ⟨0, Nat.zero_le _, rfl⟩ ?_ ?_
   · simp only [Weak, eq_self, q06, q00, sc_c, q02, q03, q04, q0z, q01, ScL, q05, List.forall_mem_map, go_sem, Int.reduceBEq, Int.reduceLE, Int.reduceLT, Int.reduceNeg, Nat.reduceAdd, Nat.reduceEqDiff, Nat.reduceLT, Nat.reduceLeDiff, Nat.reduceMul, Nat.reduceSub, reduceCtorEq, ↓reduceIte]
     all_goals rfl
   rintro ⟨i, hi, ht⟩
   refine q0a ?_
   refine VC.cond (by rfl) (by trivial) (fun hc => ?_) (fun hc => ?_)
   · simp only [decide_eq_true_eq] at hc
     obtain ⟨x, hx⟩ : ∃ x, ks[i]? = some x := ⟨ks[i], List.getElem?_eq_getElem (by omega)⟩
     obtain ⟨y, hy⟩ : ∃ y, ls[i]? = some y := ⟨ls[i], List.getElem?_eq_getElem (by omega)⟩
     have hw : IntKind.i64.wrap ((i : Int) + 1) = (i : Int) + 1 := q1h (by omega) (by omega)
     have htn := j3x hx hy ht
     (repeat (first | refine pass ?_ | refine VC.region (by rfl) (by rfl) ?_ | (refine AO.step fun K hK => ?_; simp only [List.getElem?_map, hx, hy, iPV, go_sem, Int.reduceBEq, Int.reduceLE, Int.reduceLT, Int.reduceNeg, Nat.reduceAdd, Nat.reduceEqDiff, Nat.reduceLT, Nat.reduceLeDiff, Nat.reduceMul, Nat.reduceSub, reduceCtorEq, ↓reduceIte]; (first | refine q1y ?_ | refine q0r ?_ | skip); (first | refine hK _ _ _ ?_ | refine ⟨by first | omega | exact ⟨_, rfl, rfl⟩ | exact fun _ => ⟨_, rfl, rfl⟩ | (intro h; simp only [List.getElem?_map, hx, hy, iPV, h, true_and]; omega) | (clear hK; intro h; simp_all <;> omega), hK _ _ _ ?_⟩); clear hK K) | refine VC.draw mixP (by rfl) (by rfl) ?_ | refine ⟨q10 (by kernel_rfl), ?_⟩ | refine BQ.other (by decide) ?_ | refine VC.seq ?_ | refine AO.nil ?_ | refine VC.block ?_))
     refine VC.cond (by rfl) (by trivial) (fun hc2 => ?_) (fun hc2 => ?_)
     · have hne : (ks == ls) = false := by
        rw [beq_eq_false_iff_ne]
        intro e
        subst e
        rw [hx] at hy
        obtain rfl := Option.some.inj hy
        simp at hc2
       refine q0a ?_
       refine ⟨.inr rfl, ?_⟩
       rw [Tryz.results48, hne]
       simp only [q0p, resV, go_sem, simprocAttr]
       exact .c _
     · have hxy : x = y := by simpa using hc2
       refine q0c (hw) ?_
       refine .next ⟨i + 1, by omega, htn.2 hxy⟩ ?_ (by simp only []; omega)
       refine q4p ?_
       exact cI (by omega)
   · simp only [decide_eq_false_iff_not] at hc
     obtain rfl : i = ks.length := by omega
     have heq : (ks == ls) = true := by
      rw [List.take_length, hlen, List.take_length] at ht
      simp [ht]
     refine q0a ?_
     refine ⟨.inr rfl, ?_⟩
     rw [Tryz.results48, heq]
     simp only [q0p, resV, go_sem, simprocAttr]
     exact .c _

theorem j41 {g : FuncId} (xs ys : List FT) (hcall : ∀ x ∈ xs, ∀ y, Told Tryz.prog g [x.av, y.av] (.c (.v (.bool (ceq x y))))) :
  Told Tryz.prog 47 [.c (.sl 9 (xs.map FT.cells)), .c (.sl 9 (ys.map FT.cells)), .c (.v (.func (.func g) ⟨[]⟩ ⟨[]⟩))] (.c (.v (.bool (ceq xs ys)))) := by
 refine VC.told ent_47 Tryz.func47 rfl Tryz.ntmps47 (by simp) (by simp [AV.pureB, AV.pureL]) rfl fun hb => ?_
 simp only [q3l, q3t, List.mem_cons, List.not_mem_nil, or_false, forall_eq_or_imp, forall_eq, List.length_map] at hb
 have h1 := hb.1.1
 have h2 := hb.2.1.1
 clear hb
 refine q0a ?_
 refine VC.cond (by rfl) (by trivial) (fun hc => ?_) (fun hc => ?_)
 · have hne : ceq xs ys = false := by
    rw [q6p]
    intro e
    subst e
    simp at hc
   refine q0a ?_
   refine ⟨.inr rfl, ?_⟩
   rw [Tryz.results47, hne]
   simp only [q0p, resV, go_sem, simprocAttr]
   exact .c _
 · have hlen : xs.length = ys.length := by
    simp at hc
    omega
   refine q0a ?_
   refine VC.loop (ι := {i : Nat // i ≤ xs.length ∧ xs.take i = ys.take i}) (fun i => [(1, .c (.sl 9 (ys.map FT.cells))), (2, .c (.v (.func (.func g) ⟨[]⟩ ⟨[]⟩))), (15, .c (.sl 9 (xs.map FT.cells))), (16, .c (.v (.int .i64 xs.length))), (17, .c (.v (.int .i64 i.1)))]) (fun _ => []) 0 (fun i => xs.length - i.1) ⟨0, Nat.zero_le _, rfl⟩ ?_ ?_
   · simp only [Weak, eq_self, q06, q00, sc_c, q02, q03, q04, q0z, q01, ScL, q05, List.forall_mem_map, go_sem, Int.reduceBEq, Int.reduceLE, Int.reduceLT, Int.reduceNeg, Nat.reduceAdd, Nat.reduceEqDiff, Nat.reduceLT, Nat.reduceLeDiff, Nat.reduceMul, Nat.reduceSub, reduceCtorEq, ↓reduceIte]
     all_goals rfl
   rintro ⟨i, hi, ht⟩
   refine q0a ?_
   refine VC.cond (by rfl) (by trivial) (fun hc => ?_) (fun hc => ?_)
   · simp only [decide_eq_true_eq] at hc
     obtain ⟨x, hx⟩ : ∃ x, xs[i]? = some x := ⟨xs[i], List.getElem?_eq_getElem (by omega)⟩
     obtain ⟨y, hy⟩ : ∃ y, ys[i]? = some y := ⟨ys[i], List.getElem?_eq_getElem (by omega)⟩
     have hw : IntKind.i64.wrap ((i : Int) + 1) = (i : Int) + 1 := q1h (by omega) (by omega)
     have hcl := hcall x (List.mem_of_getElem? hx) y
     (repeat (first | refine pass ?_ | refine VC.region (by rfl) (by rfl) ?_ | (refine AO.step fun K hK => ?_; simp only [List.getElem?_map, hx, hy, FT.av, q57, q89, q9a, go_sem, Int.reduceBEq, Int.reduceLE, Int.reduceLT, Int.reduceNeg, Nat.reduceAdd, Nat.reduceEqDiff, Nat.reduceLT, Nat.reduceLeDiff, Nat.reduceMul, Nat.reduceSub, reduceCtorEq, ↓reduceIte]; (first | refine q1y ?_ | refine q0r ?_ | skip); (first | refine hK _ _ _ ?_ | refine ⟨by first | omega | exact ⟨_, rfl, rfl⟩ | exact fun _ => ⟨_, rfl, rfl⟩ | (intro h; simp only [List.getElem?_map, hx, hy, FT.av, q57, q89, q9a, h, true_and]; omega) | (clear hK; intro h; simp_all <;> omega), hK _ _ _ ?_⟩); clear hK K) | refine VC.draw mixP (by rfl) (by rfl) ?_ | refine ⟨q10 (by kernel_rfl), ?_⟩ | refine BQ.other (by decide) ?_ | refine VC.seq ?_ | refine AO.nil ?_ | refine VC.block ?_))
     (refine AO.step fun K hK => ?_; simp only [go_sem, Int.reduceBEq, Int.reduceLE, Int.reduceLT, Int.reduceNeg, Nat.reduceAdd, Nat.reduceEqDiff, Nat.reduceLT, Nat.reduceLeDiff, Nat.reduceMul, Nat.reduceSub, reduceCtorEq, ↓reduceIte, FT.av, q57, q89, q9a, q16]; (first | refine q0r ?_ | skip))
     refine ⟨_, hcl, hK _ _ _ ?_⟩
     clear hK K
     refine q0a ?_
     refine VC.cond (by rfl) (by trivial) (fun hc2 => ?_) (fun hc2 => ?_)
     · have hne : ceq xs ys = false := by
        rw [q6p]
        intro e
        subst e
        rw [hx] at hy
        obtain rfl := Option.some.inj hy
        rw [q73] at hc2
        simp at hc2
       refine q0a ?_
       refine ⟨.inr rfl, ?_⟩
       rw [Tryz.results47, hne]
       simp only [q0p, resV, go_sem, simprocAttr]
       exact .c _
     · have hxy : x = y := by
        rw [← q4b]
        simpa using hc2
       refine q0c (hw) ?_
       refine .next ⟨i + 1, by omega, ?_⟩ ?_ (by simp only []; omega)
       · rw [List.take_add_one, List.take_add_one, hx, hy, ht, hxy]
       refine q4p ?_
       exact cI (by omega)
   · simp only [decide_eq_false_iff_not] at hc
     obtain rfl : i = xs.length := by omega
     have heq : ceq xs ys = true := by
      rw [List.take_length, hlen, List.take_length] at ht
      rw [q4b, ht]
     refine q0a ?_
     refine ⟨.inr rfl, ?_⟩
     rw [Tryz.results47, heq]
     simp only [q0p, resV, go_sem, simprocAttr]
     exact .c _

theorem eqfN_told {g : FuncId} {fs cs : List AV} (hp : AV.pureL fs = true) (hp' : AV.pureL cs = true) (xs ys : List NT) (hcall : ∀ x ∈ xs, ∀ y, Told Tryz.prog g (fs ++ ([x.av, y.av] ++ cs)) (.c (.v (.bool (ceq x y))))) :
  Told Tryz.prog 45 [.c (.sl 10 (xs.map NT.cells)), .c (.sl 10 (ys.map NT.cells)), .fn (.func g) fs cs] (.c (.v (.bool (ceq xs ys)))) := by
 refine VC.told ent_45 Tryz.func45 rfl Tryz.ntmps45 (by simp) (by simp [AV.pureB, AV.pureL, hp, hp']) rfl fun hb => ?_
 simp only [q3l, q3t, List.mem_cons, List.not_mem_nil, or_false, forall_eq_or_imp, forall_eq, List.length_map] at hb
 have h1 := hb.1.1
 have h2 := hb.2.1.1
 clear hb
 refine q0a ?_
 refine VC.cond (by rfl) (by trivial) (fun hc => ?_) (fun hc => ?_)
 · have hne : ceq xs ys = false := by
    rw [q6p]
    intro e
    subst e
    simp at hc
   refine q0a ?_
   refine ⟨.inr rfl, ?_⟩
   rw [Tryz.results45, hne]
   simp only [q0p, resV, go_sem, simprocAttr]
   exact .c _
 · have hlen : xs.length = ys.length := by
    simp at hc
    omega
   refine q0a ?_
   refine VC.loop (ι := {i : Nat // i ≤ xs.length ∧ xs.take i = ys.take i}) (fun i => [(1, .c (.sl 10 (ys.map NT.cells))), (2, .fn (.func g) fs cs), (15, .c (.sl 10 (xs.map NT.cells))), (16, .c (.v (.int .i64 xs.length))), (17, .c (.v (.int .i64 i.1)))]) (fun _ => []) 0 (fun i => xs.length - i.1) ⟨0, Nat.zero_le _, rfl⟩ ?_ ?_
   · simp only [q2l hp, q2l hp', Weak, eq_self, q06, q00, sc_c, q02, q03, q04, q0z, q01, ScL, q05, List.forall_mem_map, go_sem, Int.reduceBEq, Int.reduceLE, Int.reduceLT, Int.reduceNeg, Nat.reduceAdd, Nat.reduceEqDiff, Nat.reduceLT, Nat.reduceLeDiff, Nat.reduceMul, Nat.reduceSub, reduceCtorEq, ↓reduceIte]
     all_goals rfl
   rintro ⟨i, hi, ht⟩
   refine q0a ?_
   refine VC.cond (by rfl) (by trivial) (fun hc => ?_) (fun hc => ?_)
   · simp only [decide_eq_true_eq] at hc
     obtain ⟨x, hx⟩ : ∃ x, xs[i]? = some x := ⟨xs[i], List.getElem?_eq_getElem (by omega)⟩
     obtain ⟨y, hy⟩ : ∃ y, ys[i]? = some y := ⟨ys[i], List.getElem?_eq_getElem (by omega)⟩
     have hw : IntKind.i64.wrap ((i : Int) + 1) = (i : Int) + 1 := q1h (by omega) (by omega)
     have hcl := hcall x (List.mem_of_getElem? hx) y
     (repeat (first | refine pass ?_ | refine VC.region (by rfl) (by rfl) ?_ | (refine AO.step fun K hK => ?_; simp only [List.getElem?_map, hx, hy, NT.av, q60, q7l, q7m, go_sem, Int.reduceBEq, Int.reduceLE, Int.reduceLT, Int.reduceNeg, Nat.reduceAdd, Nat.reduceEqDiff, Nat.reduceLT, Nat.reduceLeDiff, Nat.reduceMul, Nat.reduceSub, reduceCtorEq, ↓reduceIte]; (first | refine q1y ?_ | refine q0r ?_ | skip); (first | refine hK _ _ _ ?_ | refine ⟨by first | omega | exact ⟨_, rfl, rfl⟩ | exact fun _ => ⟨_, rfl, rfl⟩ | (intro h; simp only [List.getElem?_map, hx, hy, NT.av, q60, q7l, q7m, h, true_and]; omega) | (clear hK; intro h; simp_all <;> omega), hK _ _ _ ?_⟩); clear hK K) | refine VC.draw mixP (by rfl) (by rfl) ?_ | refine ⟨q10 (by kernel_rfl), ?_⟩ | refine BQ.other (by decide) ?_ | refine VC.seq ?_ | refine AO.nil ?_ | refine VC.block ?_))
     (refine AO.step fun K hK => ?_; simp only [go_sem, Int.reduceBEq, Int.reduceLE, Int.reduceLT, Int.reduceNeg, Nat.reduceAdd, Nat.reduceEqDiff, Nat.reduceLT, Nat.reduceLeDiff, Nat.reduceMul, Nat.reduceSub, reduceCtorEq, ↓reduceIte, NT.av, q60, q7l, q7m, hp, hp', q67, q16, List.append_assoc]; (first | refine q0r ?_ | skip))
     refine .inl ⟨_, hcl, hK _ _ _ ?_⟩
     clear hK K
     refine q0a ?_
     refine VC.cond (by rfl) (by trivial) (fun hc2 => ?_) (fun hc2 => ?_)
     · have hne : ceq xs ys = false := by
        rw [q6p]
        intro e
        subst e
        rw [hx] at hy
        obtain rfl := Option.some.inj hy
        rw [q73] at hc2
        simp at hc2
       refine q0a ?_
       refine ⟨.inr rfl, ?_⟩
       rw [Tryz.results45, hne]
       simp only [q0p, resV, go_sem, simprocAttr]
       exact .c _
     · have hxy : x = y := by
        rw [← q4b]
        simpa using hc2
       refine q0c (hw) ?_
       refine .next ⟨i + 1, by omega, ?_⟩ ?_ (by simp only []; omega)
       · rw [List.take_add_one, List.take_add_one, hx, hy, ht, hxy]
       simp only [q2l hp, q2l hp', Weak, eq_self, q06, q00, sc_c, q02, q03, q04, q0z, q01, ScL, q05, List.forall_mem_map, go_sem, Int.reduceBEq, Int.reduceLE, Int.reduceLT, Int.reduceNeg, Nat.reduceAdd, Nat.reduceEqDiff, Nat.reduceLT, Nat.reduceLeDiff, Nat.reduceMul, Nat.reduceSub, reduceCtorEq, ↓reduceIte]
       exact cI (by omega)
   · simp only [decide_eq_false_iff_not] at hc
     obtain rfl : i = xs.length := by omega
     have heq : ceq xs ys = true := by
      rw [List.take_length, hlen, List.take_length] at ht
      rw [q4b, ht]
     refine q0a ?_
     refine ⟨.inr rfl, ?_⟩
     rw [Tryz.results45, heq]
     simp only [q0p, resV, go_sem, simprocAttr]
     exact .c _

theorem ceq_field (a b : FT) : ceq a b = ((((a.name == b.name) && (a.aliases == b.aliases)) && (a.type == b.type)) && (a.has == b.has) && jeq a.dflt b.dflt) := by
 rw [Bool.eq_iff_iff]
 simp only [q4b, Bool.and_eq_true, beq_iff_eq, q6y]
 constructor
 · rintro rfl
   exact ⟨⟨⟨⟨rfl, rfl⟩, rfl⟩, rfl⟩, rfl⟩
 · rintro ⟨⟨⟨⟨h1, h2⟩, h3⟩, h4⟩, h5⟩
   cases a
   cases b
   simp_all
theorem ceq_node (a b : NT) : ceq a b = ((((((((((a.kind == b.kind) && (a.name == b.name)) && (a.aliases == b.aliases)) && ceq a.fields b.fields) && (a.symbols == b.symbols)) && (a.has == b.has)) && (a.dflt == b.dflt)) && (a.size == b.size)) && (a.items == b.items)) && (a.branches == b.branches)) := by
 rw [Bool.eq_iff_iff]
 simp only [q4b, Bool.and_eq_true, beq_iff_eq]
 constructor
 · rintro rfl
   simp
 · rintro ⟨⟨⟨⟨⟨⟨⟨⟨⟨h1, h2⟩, h3⟩, h4⟩, h5⟩, h6⟩, h7⟩, h8⟩, h9⟩, h10⟩
   cases a
   cases b
   simp_all
theorem j4u (a b : ST) : ceq a b = ((a.root == b.root) && ceq a.nodes b.nodes) := by
 rw [Bool.eq_iff_iff]
 simp only [q4b, Bool.and_eq_true, beq_iff_eq]
 constructor
 · rintro rfl
   simp
 · rintro ⟨h1, h2⟩
   cases a
   cases b
   simp_all
theorem j5t (a b : FT) : Told Tryz.prog 42 [a.av, b.av] (.c (.v (.bool (ceq a b)))) := by
 have hA := q7j a.aliases b.aliases
 have hJ := same_told _ a.dflt b.dflt (Nat.le_refl _)
 simp only [JT.av_eq] at hJ
 have hV := ceq_field a b
 obtain ⟨V, hVV⟩ : ∃ V, V = ceq a b := ⟨_, rfl⟩
 rw [← hVV] at hV ⊢
 clear hVV
 generalize (a.aliases == b.aliases) = b1 at hA hV
 generalize jeq a.dflt b.dflt = b2 at hJ hV
 replace hV := Lib.hid hV
 rw [FT.av_eq, FT.av_eq, q51, q51]
 refine VC.toldP ent_42 Tryz.func42 rfl Tryz.ntmps42 fun hb => ?_
 clear hb
 refine q0c (And.intro @q1z (And.intro @q2m (And.intro @q2h @q2g))) ?_
 refine q45 (hA) ?_
 refine q0c (And.intro @q1z (And.intro @q2m @q2h)) ?_
 refine q6d (@q16) (hJ) ?_
 refine q0a ?_
 refine retX Tryz.results42 ?_
 rw [hV.out]
 exact .c _
theorem tyFnF : tyA Tryz.prog 75 = some ⟨false, 1, 8, [.nilFunc], 0, [], 0, []⟩ := by kernel_rfl
theorem j5u (a b : NT) : Told Tryz.prog 46 [a.av, b.av, .pp [fnP 42]] (.c (.v (.bool (ceq a b)))) := by
 have hA := q7j a.aliases b.aliases
 have hF := j41 (g := 42) a.fields b.fields fun x _ y => j5t x y
 have hS := q7j a.symbols b.symbols
 have hB := j45 a.branches b.branches
 have hV := ceq_node a b
 obtain ⟨V, hVV⟩ : ∃ V, V = ceq a b := ⟨_, rfl⟩
 rw [← hVV] at hV ⊢
 clear hVV
 generalize (a.aliases == b.aliases) = b1 at hA hV
 generalize ceq a.fields b.fields = b2 at hF hV
 generalize (a.symbols == b.symbols) = b3 at hS hV
 generalize (a.branches == b.branches) = b4 at hB hV
 replace hV := Lib.hid hV
 rw [NT.av_eq, NT.av_eq, q40, q40]
 unfold fnP
 refine VC.toldP ent_46 Tryz.func46 rfl Tryz.ntmps46 fun hb => ?_
 clear hb
 refine q0c (@q2g) ?_
 refine q45 (hA) ?_
 refine q0c (@tyFnF) ?_
 refine q6d (@tyFnF) (hF) ?_
 refine q0a ?_
 refine q45 (hS) ?_
 refine q0c (@q2g) ?_
 refine q45 (hB) ?_
 refine q0a ?_
 refine retX Tryz.results46 ?_
 rw [hV.out]
 exact .c _
theorem j5r (a b : ST) : Told Tryz.prog 16 [a.av, b.av] (.c (.v (.bool (ceq a b)))) := by
 have hN := eqfN_told (g := 46) (fs := []) (cs := [.pp [fnP 42]]) rfl rfl a.nodes b.nodes fun x _ y => j5u x y
 have hV := j4u a b
 obtain ⟨V, hVV⟩ : ∃ V, V = ceq a b := ⟨_, rfl⟩
 rw [← hVV] at hV ⊢
 clear hVV
 generalize ceq a.nodes b.nodes = b1 at hN hV
 replace hV := Lib.hid hV
 rw [ST.av_eq, ST.av_eq, q43, q43]
 refine VC.toldP ent_16 Tryz.func16 rfl Tryz.ntmps16 fun hb => ?_
 clear hb
 (refine VC.seq ?_; (first | refine VC.region (by rfl) (by rfl) ?_ | refine VC.draw mixP (by rfl) (by rfl) ?_); (repeat (refine AO.step fun K hK => ?_; simp only [go_sem, Int.reduceBEq, Int.reduceLE, Int.reduceLT, Int.reduceNeg, Nat.reduceAdd, Nat.reduceEqDiff, Nat.reduceLT, Nat.reduceLeDiff, Nat.reduceMul, Nat.reduceSub, reduceCtorEq, ↓reduceIte]; (first | refine q1y ?_ | refine q0r ?_ | skip); (first | refine hK _ _ _ ?_ | refine ⟨by first | omega | exact ⟨_, rfl, rfl⟩ | exact fun _ => ⟨_, rfl, rfl⟩ | (intro h; simp only [h, true_and]; omega) | (clear hK; intro h; simp_all <;> omega), hK _ _ _ ?_⟩); clear hK K)); refine AO.nil ?_; first | refine SQ.normal ?_ | refine ⟨q10 (by kernel_rfl), SQ.normal ?_⟩)
 (refine VC.seq ?_; (first | refine VC.region (by rfl) (by rfl) ?_ | refine VC.draw mixP (by rfl) (by rfl) ?_); (repeat (refine AO.step fun K hK => ?_; simp only [tyFnF, go_sem, Int.reduceBEq, Int.reduceLE, Int.reduceLT, Int.reduceNeg, Nat.reduceAdd, Nat.reduceEqDiff, Nat.reduceLT, Nat.reduceLeDiff, Nat.reduceMul, Nat.reduceSub, reduceCtorEq, ↓reduceIte]; (first | refine q1y ?_ | refine q0r ?_ | skip); (first | refine hK _ _ _ ?_ | refine ⟨by first | omega | exact ⟨_, rfl, rfl⟩ | exact fun _ => ⟨_, rfl, rfl⟩ | (intro h; simp only [tyFnF, h, true_and]; omega) | (clear hK; intro h; simp_all <;> omega), hK _ _ _ ?_⟩); clear hK K)); refine AO.nil ?_; first | refine SQ.normal ?_ | refine ⟨q10 (by kernel_rfl), SQ.normal ?_⟩)
 refine VC.frz [] [(2, .ref 0 1 0 0), (3, .ref 8 1 0 0), (5, .ref 24 1 0 0)] [(0, ⟨false, 30, 2, [[.c (.sl 10 (a.nodes.map NT.cells)), .c (.v (.int .i64 a.root))]]⟩), (8, ⟨false, 30, 2, [[.c (.sl 10 (b.nodes.map NT.cells)), .c (.v (.int .i64 b.root))]]⟩), (24, ⟨false, 75, 1, [[.c (fnP 42)]]⟩)] 400 ?_ ?_
 · simp only [WeakF, q06, q00, sc_c, q02, q03, q04, q0z, q01, ScL, q05, List.forall_mem_map, go_sem, Int.reduceBEq, Int.reduceLE, Int.reduceLT, Int.reduceNeg, Nat.reduceAdd, Nat.reduceEqDiff, Nat.reduceLT, Nat.reduceLeDiff, Nat.reduceMul, Nat.reduceSub, reduceCtorEq, ↓reduceIte]
   exact ⟨⟨.same _, .same _, .same _⟩, .same _, .same _, .one (.cons .fnV .nil) (by simp [AV.cellish])⟩
 refine q0a ?_
 (refine AO.step fun K hK => ?_; simp only [go_sem, Int.reduceBEq, Int.reduceLE, Int.reduceLT, Int.reduceNeg, Nat.reduceAdd, Nat.reduceEqDiff, Nat.reduceLT, Nat.reduceLeDiff, Nat.reduceMul, Nat.reduceSub, reduceCtorEq, ↓reduceIte]; (first | refine q0r ?_ | skip))
 refine .inr (.inl ⟨.c (.v (.bool b1)), [.c (.sl 10 (a.nodes.map NT.cells)), .c (.sl 10 (b.nodes.map NT.cells)), .fn (.func 46) [] [.pp [fnP 42]]], [24], fun hg => ⟨by simpa using hg, by rfl, rfl, fun k x z h5 h6 => ?_, rfl, hN⟩, hK _ _ _ ?_⟩)
 · match k with
   | 0 => obtain rfl := Option.some.inj h5; obtain rfl := Option.some.inj h6; exact .same _
   | 1 => obtain rfl := Option.some.inj h5; obtain rfl := Option.some.inj h6; exact .same _
   | 2 =>
     obtain rfl := Option.some.inj h5
     obtain rfl := Option.some.inj h6
     refine .fn rfl (by simp) rfl fun k x z h7 h8 => ?_
     match k with
     | 0 => obtain rfl := Option.some.inj h7; obtain rfl := Option.some.inj h8; exact View.ref (es := [fnP 42]) rfl rfl rfl rfl
     | k + 1 => simp at h7
   | k + 3 => simp at h5
 clear hK K
 refine q0a ?_
 refine retX Tryz.results16 ?_
 rw [hV.out]
 exact .c _

theorem j5e (n : NT) (hf : n.fields = []) (ho : q3r ⟨[n], 0⟩ = true) (hs : n.sm 1000000) : ∀ i, i < ([n] : List NT).length → (0 : Int) = 0 → Told Tryz.prog 37 [(ST.mk [n] 0).av, .c (.v (.int .i64 (i : Int)))] (.c (.v (.int .i64 (wOf [n] i)))) := by
 intro i hi _
 exact j5s ⟨[n], 0⟩ ⟨by simp, fun x hx => by obtain rfl := List.mem_singleton.1 hx; exact hs⟩ ho i hi
theorem one_built (n : NT) (hf : n.fields = []) : bldM true ([n], 0, 0) (wOf [n]) = (⟨[n], 0⟩, 0) := by
 have h := heavy_no (heavy_one hf) 0 (by simp)
 have hw : wtE 0 (wOf [n]) 1 = 0 := by
  rw [j4c, j01]
  have : decide (1000 < wOf [n] 0) = false := by simpa using h
  rw [this]
  rfl
 unfold bldM
 simp only [List.length_singleton]
 rw [if_neg (by simp), if_neg (by rw [hw]; simp)]
theorem j5d (r : Bool) (p e : Int) (he : e ≠ 0) (wt : Nat → Int) : ∃ e', e' ≠ 0 ∧ bldM r ([], p, e) wt = (⟨[], 0⟩, e') := by
 unfold bldM
 cases r with
 | false => exact ⟨2, by decide, rfl⟩
 | true =>
   simp only [List.length_nil, j01]
   rw [if_neg (by simp), if_pos he]
   exact ⟨e, he, rfl⟩
theorem j5j : ∀ k : Nat, k < 9 → 1 ≤ k → q3r ⟨[q1p k], 0⟩ = true := by decide +kernel
theorem plain_sm (k : Int) : (q1p k).sm 1000000 := by
 simp [q1p, NT.sm]
def kw (w : List UInt8) : Prop := 1 ≤ q0h w ∧ q0h w ≤ 8
theorem j4a {w : List UInt8} (h : kw w) : q3k [] w [] = ([q1p (q0h w)], 0, 0) := by
 unfold q3k
 rw [if_pos (show 1 ≤ q0h w ∧ q0h w ≤ 8 from h)]
 rfl
theorem word_no {w : List UInt8} (h : ¬ kw w) : ∃ p e : Int, e ≠ 0 ∧ q3k [] w [] = ([], p, e) := by
 unfold q3k
 rw [if_neg (show ¬ (1 ≤ q0h w ∧ q0h w ≤ 8) from h)]
 refine ⟨_, _, ?_, rfl⟩
 have : ∀ x, q2w [] x = -1 := fun x => rfl
 simp only [this]
 unfold fl
 cases (q1e [] w).isSome <;> simp
def BAns (j : JT) (w : List UInt8) : Prop := (kw w → Told Tryz.prog 13 [j.av] (.tup [(ST.mk [q1p (q0h w)] 0).av, .c (.v (.int .i64 0))])) ∧
 (¬ kw w → ∃ e : Int, e ≠ 0 ∧ Told Tryz.prog 13 [j.av] (.tup [(ST.mk [] 0).av, .c (.v (.int .i64 e))]))
theorem ans_of {j : JT} {w : List UInt8} (hsm : j.sm 4294967296) (hr : kw w → jR j = true) (V : List NT × Int × Int) (hV : q2a 35 [] 0 [j.av, strV []] V) (h1 : kw w → V = ([q1p (q0h w)], 0, 0)) (h2 : ¬ kw w → ∃ p e : Int, e ≠ 0 ∧ V = ([], p, e)) : BAns j w := by
 have hR := j2l j hsm
 refine ⟨fun hk => ?_, fun hk => ?_⟩
 · rw [h1 hk] at hV
   rw [hr hk] at hR
   have := j1m j true hR ([q1p (q0h w)], 0, 0) (by simp) hV (wOf [q1p (q0h w)]) (j5e (q1p (q0h w)) rfl (j5j _ (by have := hk.2; omega) hk.1) (plain_sm _))
   rw [one_built (q1p (q0h w)) rfl] at this
   exact this
 · obtain ⟨p, e, he, h3⟩ := h2 hk
   rw [h3] at hV
   have := j1m j (jR j) hR ([], p, e) (by simp) hV (fun _ => 0) (fun i hi => by simp at hi)
   obtain ⟨e', he', h4⟩ := j5d (jR j) p e he fun _ => 0
   rw [h4] at this
   exact ⟨e', he', this⟩
theorem text_ans (w : List UInt8) (hw : w.length ≤ 1000) : BAns (q11 w) w := by
 refine ans_of ?_ (fun hk => by rw [text_jR]; exact j2p hk.1) (q3k [] w []) (j4q [] (q11 w) rfl [] _ (j1s [] (by simp) w [] (by omega) (by simp))) j4a word_no
 simp [q11, JT.sm, JT.smL]
 omega
theorem wobj_ans (w : List UInt8) (hw : w.length ≤ 1000) : BAns (wobj w) w := by
 have hE : headE [] (wobj w) [] = 30 := by
  unfold headE q5w
  rw [show jget (wobj w) q1k = none from rfl, if_neg (by simp)]
  unfold q5k q4v
  rw [show jget (wobj w) q1b = none from rfl, if_neg (by simp), show ((gt (wobj w) q1r).kd != 4) = true from rfl]
  rw [show fl 0 true 30 = 30 from rfl, q3d 30 _ _ (by decide), q3d 30 _ _ (by decide)]
 have hH := j4p [] (by simp) (wobj w) (q0h w) [] (by simp) (by rw [show gt (wobj w) q1r = zJ from rfl]; simp [zJ, JT.txt]) (by rw [show gt (wobj w) q1b = zJ from rfl]; simp [zJ, JT.txt]) (by rw [show gt (wobj w) q1k = zJ from rfl]; simp [zJ, JT.its])
  (by rw [show gt (wobj w) q1k = zJ from rfl]; simp [zJ, JT.its]) (by rw [show q1j (wobj w) [] = q1e [] [] from rfl]; decide)
 rw [show headE (hsE []) (wobj w) [] = 30 from hE] at hH
 obtain ⟨V, hV⟩ : ∃ V, V = if q0h w = 11 ∨ q0h w = 12 ∨ q0h w = 9 ∨ q0h w = 10 ∨ q0h w = 14 then (([] : List NT), (0 : Int), (30 : Int)) else q3k [] w [] := ⟨_, rfl⟩
 have hv1 : (q0h w = 11 ∨ q0h w = 12 ∨ q0h w = 9 ∨ q0h w = 10 ∨ q0h w = 14) → V = ([], 0, 30) := fun h => by rw [hV, if_pos h]
 have hN := j4r [] (by simp) (wobj w) [] rfl V 30 (fun k => headN (wobj w) k []) hH
  (fun h => by rw [hv1 (.inl h)]; exact j1r [] (by simp) 0 (wobj w) 11 aItems [] rfl)
  (fun h => by rw [hv1 (.inr (.inl h))]; exact j1r [] (by simp) 0 (wobj w) 12 q7s [] rfl)
  (fun h => by rw [hv1 (.inr (.inr (.inl h)))]; exact j4s [] (by simp) 30 (by decide) (wobj w) _ rfl)
  (fun h => by rw [hv1 (.inr (.inr (.inr (.inl h))))]; exact benum_no [] (by simp) 30 (by decide) (wobj w) _ rfl rfl)
  (fun h => by rw [hv1 (.inr (.inr (.inr (.inr h))))]; exact j4m [] (by simp) 30 (wobj w) _)
  (fun q1 q2 q3 q4 q5 => by
   rw [hV, if_neg (fun h => by rcases h with h | h | h | h | h <;> contradiction)]
   exact j1s [] (by simp) w [] (by omega) (by simp))
 refine ans_of ?_ (fun hk => ?_) V (bnode_obj [] (wobj w) rfl [] V hN) (fun hk => ?_) fun hk => ?_
 · simp [wobj, objJ, q11, JT.sm, JT.smL, q1c]
   omega
 · exact obj_jR _ (by simp; decide +kernel) (by simp) (by simp [text_jR, j2p hk.1]; simp [q11, q1q])
 · rw [hV, if_neg (by have := hk.1; have := hk.2; omega)]
   exact j4a hk
 · rw [hV]
   split
   · exact ⟨0, 30, by decide, rfl⟩
   · exact word_no hk
theorem plain_av (k : Nat) : (ST.mk [q1p k] 0).av = .agg ([PV.sl 10 [[.v (.int .i64 k), .v (.string (str [])), .sl 1 [], .sl 9 [], .sl 1 [], .v (.bool false), .v (.string (str [])), .v (.int .i64 0), .v (.int .i64 0), .sl 1 []]], .v (.int .i64 0)].map .c) := rfl
theorem none_av : (ST.mk [] 0).av = .agg ([PV.sl 10 [], .v (.int .i64 0)].map .c) := rfl
theorem j30 {w : List UInt8} {y : AV} (h : Told Tryz.prog 13 [(q11 w).av] y) : Told Tryz.prog 13 [.agg ([PV.v (.int .i64 4), .v (.int .i64 0), .v (.string (str w)), .v (.slice none 0 0), .v (.slice none 0 0)].map .c)] y := by
 rw [show (q11 w).av = .agg ([PV.v (.int .i64 4), .v (.int .i64 0), .v (.string (str w)), .sl 5 [], .sl 1 []].map .c) from by rw [JT.av_eq, q1o]; rfl] at h
 exact h.pco (.cons (.same _) (.cons (.same _) (.cons (.same _) (.cons (.nil 5) (.cons (.nil 1) .nil)))))
theorem j39 {w : List UInt8} {y : AV} (hy : y.pureB = true) (h : Told Tryz.prog 13 [(wobj w).av] y) :
  ToldM Tryz.prog 13 [.agg [.c (.v (.int .i64 6)), .c (.v (.int .i64 0)), .c (.v (.string ⟨#[]⟩)), .row 1000001 1, .row 1000000 1]]
   [⟨true, 9, 1, [[.c (.v (.string (str q1c)))]]⟩, ⟨true, 25, 5, [[.c (.v (.int .i64 4)), .c (.v (.int .i64 0)), .c (.v (.string (str w))), .c (.v (.slice none 0 0)), .c (.v (.slice none 0 0))]]⟩] [none, none] y := by
 rw [show (wobj w).av = .agg ([PV.v (.int .i64 6), .v (.int .i64 0), .v (.string ⟨#[]⟩), .sl 5 [[.v (.int .i64 4), .v (.int .i64 0), .v (.string (str w)), .sl 5 [], .sl 1 []]], .sl 1 [[.v (.string (str q1c))]]].map .c) from by
  rw [JT.av_eq, q1o]
  simp [wobj, objJ, JT.kd, JT.num, JT.txt, JT.its, JT.keys, q1o, q11, str, sPV]] at h
 have h2 := h.pco (.cons (.same _) (.cons (.same _) (.cons (.same _) (.cons (.rows (es := [[.v (.int .i64 4), .v (.int .i64 0), .v (.string (str w)), .v (.slice none 0 0), .v (.slice none 0 0)]]) (.cons (.cons (.same _) (.cons (.same _) (.cons (.same _) (.cons (.nil 5) (.cons (.nil 1) .nil))))) .nil)) (.cons (.same _) .nil)))))
 refine ToldM.gone (L := [⟨true, 9, 1, [[.c (.v (.string (str q1c)))]]⟩, ⟨true, 25, 5, [[.c (.v (.int .i64 4)), .c (.v (.int .i64 0)), .c (.v (.string (str w))), .c (.v (.slice none 0 0)), .c (.v (.slice none 0 0))]]⟩]) h2 rfl hy ?_ rfl fun k x z h1 h3 => ?_
 · intro B hB e he x hx
   simp only [List.mem_cons, List.not_mem_nil, or_false] at hB
   rcases hB with rfl | rfl <;> (simp at he; subst he; simp at hx)
   · exact ⟨_, hx⟩
   · rcases hx with rfl | rfl | rfl | rfl | rfl <;> exact ⟨_, rfl⟩
 · cases k with
   | succ k => simp at h1
   | zero =>
     obtain rfl := Option.some.inj h1
     obtain rfl := Option.some.inj h3
     refine View.agg rfl fun k x z h1 h3 => ?_
     match k with
     | 0 => obtain rfl := Option.some.inj h1; obtain rfl := Option.some.inj h3; exact .same _
     | 1 => obtain rfl := Option.some.inj h1; obtain rfl := Option.some.inj h3; exact .same _
     | 2 => obtain rfl := Option.some.inj h1; obtain rfl := Option.some.inj h3; exact .same _
     | 3 =>
       obtain rfl := Option.some.inj h1
       obtain rfl := Option.some.inj h3
       exact View.row (B := ⟨true, 25, 5, [[.c (.v (.int .i64 4)), .c (.v (.int .i64 0)), .c (.v (.string (str w))), .c (.v (.slice none 0 0)), .c (.v (.slice none 0 0))]]⟩) rfl rfl rfl rfl
     | 4 =>
       obtain rfl := Option.some.inj h1
       obtain rfl := Option.some.inj h3
       exact View.row (B := ⟨true, 9, 1, [[.c (.v (.string (str q1c)))]]⟩) rfl rfl rfl rfl
     | k + 5 => simp at h1
theorem j4t (w : List UInt8) : Told Tryz.prog 4 [.c (.v (.string (str w)))] (.c (.v (.bool true))) := by
 have hW := j6o
 by_cases hl : 1000 < w.length
 · have hg : decide ((w.length : Int) > 1000) = true := by simp; omega
   refine VC.toldP ent_4 Tryz.func4 rfl Tryz.ntmps4 fun hb => ?_
   clear hb
   refine q0a ?_
   refine q0n (hW) ?_
   refine q0v (And.intro @q2f hg) ?_
   refine retX Tryz.results4 ?_
   exact .c _
 · have hg : decide ((w.length : Int) > 1000) = false := by simp; omega
   have h1 := text_ans w (by omega)
   have h2 := wobj_ans w (by omega)
   by_cases hk : kw w
   · have h3 := j30 (h1.1 hk)
     have h4 := j39 (by simp [AV.pureB, AV.pureL, ST.av_eq, q16]) (h2.1 hk)
     have hS := j5r (ST.mk [q1p (q0h w)] 0) (ST.mk [q1p (q0h w)] 0)
     rw [q73] at hS
     have hk8 : decide ((q0h w : Int) ≤ 8) = true := by have := hk.2; simp; omega
     rw [plain_av] at h3 h4 hS
     simp only [List.map_cons, List.map_nil] at h3 h4 hS
     generalize (q0h w : Int) = k at *
     rw [q1c, q21 [116, 121, 112, 101]] at h4
     refine VC.toldP ent_4 Tryz.func4 rfl Tryz.ntmps4 fun hb => ?_
     clear hb
     refine q0a ?_
     refine q0n (hW) ?_
     refine q0v (And.intro @q2f hg) ?_
     refine q0n (h3) ?_
     refine q0a ?_
     refine walkL [144, 160] (h4) ?_
     refine q2o ?_
     refine q0n (hS) ?_
     refine q0c (hk8) ?_
     refine retX Tryz.results4 ?_
     exact .c _
   · obtain ⟨e1, he1, h3⟩ := h1.2 hk
     obtain ⟨e2, he2, h4⟩ := h2.2 hk
     replace h3 := j30 h3
     replace h4 := j39 (by simp [AV.pureB, AV.pureL, ST.av_eq, q16]) h4
     have q1 : (e1 != 0) = true := by simpa using he1
     have q2 : (e2 != 0) = true := by simpa using he2
     rw [none_av] at h3 h4
     simp only [List.map_cons, List.map_nil] at h3 h4
     rw [q1c, q21 [116, 121, 112, 101]] at h4
     refine VC.toldP ent_4 Tryz.func4 rfl Tryz.ntmps4 fun hb => ?_
     clear hb
     refine q0a ?_
     refine q0n (hW) ?_
     refine q0v (And.intro @q2f hg) ?_
     refine q0n (h3) ?_
     refine q0a ?_
     refine walkL [144, 160] (h4) ?_
     refine q0v (And.intro q1 q2) ?_
     refine retX Tryz.results4 ?_
     exact .c _
section
open Go.RowKit Go.ChangeShapes Go.WideShapes Go.ChangeAt
inductive TyPV (P : Program) : TypeId → List PV → Prop
 | bool {t : TypeId} {b : Bool} (ht : P.underlying t = some .bool) : TyPV P t [.v (.bool b)]
 | int {t : TypeId} {k : IntKind} {n : Int} (ht : P.underlying t = some (.int k)) (hw : (Lit.int k n).wf = true) : TyPV P t [.v (.int k n)]
 | str {t : TypeId} {s : ByteArray} (ht : P.underlying t = some .string) (hs : s.size ≤ maxLen) : TyPV P t [.v (.string s)]
 | sl {t e : TypeId} {es : List (List PV)} (ht : P.underlying t = some (.slice e)) (hx : ∀ q ∈ es, TyPV P e q) : TyPV P t [.sl (P.cellsOf e) es]
 | struct {t : TypeId} {fs : Array Field} {ps : List PV} (ht : P.underlying t = some (.struct fs)) (hl : ps.length = P.cellsOf t)
   (hx : ∀ (i : Nat) (f : Field), fs[i]? = some f → TyPV P f.type ((ps.drop f.offset).take (P.cellsOf f.type))) : TyPV P t ps
def tiles (P : Program) : List Field → Nat → Nat → Bool
 | [], o, n => o == n
 | f :: fs, o, n => f.offset == o && tiles P fs (o + P.cellsOf f.type) n
def plainB (P : Program) (l : List TypeId) : Bool := l.all fun t => match P.underlying t with
 | some .bool => P.cellsOf t == 1 | some (.int _) => P.cellsOf t == 1 | some .string => P.cellsOf t == 1
 | some (.slice e) => l.contains e && decide (0 < P.cellsOf e) && (P.cellsOf t == 1)
 | some (.struct fs) => tiles P fs.toList 0 (P.cellsOf t) && fs.toList.all fun f => l.contains f.type
 | _ => false
theorem list_of {α : Type} {p : Nat → α → Prop} : ∀ (n : Nat), (∀ i, i < n → ∃ y, p i y) → ∃ l : List α, l.length = n ∧ ∀ (i : Nat) (y : α), l[i]? = some y → p i y
 | 0, _ => ⟨[], rfl, fun i y h => by simp at h⟩
 | n + 1, h => by
   obtain ⟨l, h1, h2⟩ := list_of n fun i hi => h i (by omega)
   obtain ⟨y, hy⟩ := h n (by omega)
   refine ⟨l ++ [y], by simp [h1], fun i z hz => ?_⟩
   by_cases hi : i < l.length
   · rw [List.getElem?_append_left hi] at hz
     exact h2 i z hz
   · rw [List.getElem?_append_right (by omega)] at hz
     cases hj : i - l.length with
     | zero =>
       rw [hj] at hz
       simp at hz
       subst hz
       rw [show i = n by omega]
       exact hy
     | succ j => rw [hj] at hz; simp at hz
section
variable {P : Program} {w : World}
theorem q14.cons_app {ro : Nat → Prop} {p q : List PV} {v u : List Value} (h : q14 w ro p v) (h' : q14 w ro q u) : q14 w ro (p ++ q) (v ++ u) := by
 refine ⟨by simp [h.1, h'.1], fun j x y h1 h2 => ?_⟩
 by_cases hj : j < p.length
 · rw [List.getElem?_append_left hj] at h1
   rw [List.getElem?_append_left (by rw [h.1]; exact hj)] at h2
   exact h.2 j x y h1 h2
 · rw [List.getElem?_append_right (by omega)] at h1
   rw [List.getElem?_append_right (by rw [h.1]; omega), h.1] at h2
   exact h'.2 _ x y h1 h2
theorem tile_rep {ro : Nat → Prop} {cs : List Value} {n : Nat} (hn : cs.length = n) : ∀ (fs : List Field) (o : Nat), o ≤ n → tiles P fs o n = true →
  (∀ f ∈ fs, ∃ q, q14 w ro q ((cs.drop f.offset).take (P.cellsOf f.type)) ∧ q.length = P.cellsOf f.type ∧ TyPV P f.type q) →
  ∃ ps, q14 w ro ps (cs.drop o) ∧ ps.length = n - o ∧ ∀ (i : Nat) (f : Field), fs[i]? = some f → o ≤ f.offset ∧ TyPV P f.type ((ps.drop (f.offset - o)).take (P.cellsOf f.type)) := by
 intro fs
 induction fs with
 | nil =>
   intro o ho ht _
   simp [tiles] at ht
   subst ht
   exact ⟨[], ⟨by simp [← hn], by simp⟩, by simp, by simp⟩
 | cons f fs ih =>
   intro o ho ht hf
   simp only [tiles, Bool.and_eq_true, beq_iff_eq] at ht
   obtain ⟨h1, h2⟩ := ht
   obtain ⟨q, hq1, hq2, hq3⟩ := hf f (by simp)
   have hle : o + P.cellsOf f.type ≤ n := by
    have := hq1.1
    rw [hq2, List.length_take, List.length_drop, h1, hn] at this
    omega
   obtain ⟨ps, hp1, hp2, hp3⟩ := ih _ hle h2 fun g hg => hf g (by simp [hg])
   have hsp : cs.drop o = (cs.drop o).take (P.cellsOf f.type) ++ cs.drop (o + P.cellsOf f.type) := by
    rw [← List.drop_drop, List.take_append_drop]
   refine ⟨q ++ ps, ?_, by simp [hq2, hp2]; omega, fun i g hg => ?_⟩
   · rw [hsp]
     rw [h1] at hq1
     exact hq1.cons_app hp1
   · cases i with
     | zero =>
       simp at hg
       subst hg
       refine ⟨by omega, ?_⟩
       rw [h1, Nat.sub_self, List.drop_zero, ← hq2, List.take_left]
       exact hq3
     | succ i =>
       simp at hg
       obtain ⟨h3, h4⟩ := hp3 i g hg
       refine ⟨by omega, ?_⟩
       rw [show g.offset - o = q.length + (g.offset - (o + P.cellsOf f.type)) by omega, List.drop_append, List.drop_of_length_le (by omega), List.nil_append, Nat.add_sub_cancel_left]
       exact h4
variable {H : Type} {enc : TypeId × Value → H} {sp : Nat → Bool} {held : Bool}
theorem q8r {W : World} {ro : Nat → Prop} {v : Value} (hv : v.oneCell' = true) : q14 W ro [.v v] [v] := ⟨rfl, fun j p u h1 h2 => by
 cases j with
 | zero => simp at h1 h2; subst h1 h2; exact .v hv
 | succ j => simp at h1⟩
theorem open_pv {l : List TypeId} (hl : plainB P l = true) : ∀ (fuel : Nat) (t : TypeId) (cs : List Value) (x : DataW H × List MemPlace), t ∈ l → DataW.trod enc P w 0 sp held fuel t cs = some x →
  ∃ ps, q14 w (fun b => b < w.heap.size) ps cs ∧ ps.length = P.cellsOf t ∧ TyPV P t ps := by
 intro fuel
 induction fuel using Nat.strongRecOn with
 | ind fuel ih =>
 intro t cs x ht h
 have hk := List.all_eq_true.1 hl t ht
 split at hk
 · rename_i hu
   obtain ⟨b, rfl, _⟩ := DataW.trod_bool hu h
   exact ⟨_, q8r rfl, (by simpa using hk : P.cellsOf t = 1).symm, .bool hu⟩
 · rename_i k hu
   obtain ⟨n, rfl, _, hw⟩ := DataW.trod_int hu h
   exact ⟨_, q8r rfl, (by simpa using hk : P.cellsOf t = 1).symm, .int hu hw⟩
 · rename_i hu
   obtain ⟨s, rfl, _, hs⟩ := DataW.trod_string hu h
   exact ⟨_, q8r rfl, (by simpa using hk : P.cellsOf t = 1).symm, .str hu hs⟩
 · rename_i e hu
   simp only [Bool.and_eq_true, List.contains_iff_mem, decide_eq_true_eq, beq_iff_eq] at hk
   obtain ⟨⟨he, hz⟩, hone⟩ := hk
   rcases DataW.trod_slice hu h with ⟨rfl, _⟩ | ⟨a, len, cap, elems, rest, n, rfl, rfl, _, hb, h1, h2, h3, h4, _, _⟩
   · exact ⟨[.sl (P.cellsOf e) []], ⟨rfl, fun j p u g1 g2 => by
      cases j with
      | zero => simp at g1 g2; subst g1 g2; exact PRep.nil _ _ _
      | succ j => simp at g1⟩, hone.symm, .sl hu (by simp)⟩
   · have hex : ∀ i, i < len → ∃ y : List Value × List PV, w.cells? 0 (a.add (i * P.cellsOf e)) (P.cellsOf e) = some y.1 ∧ q14 w (fun b => b < w.heap.size) y.2 y.1 ∧ y.2.length = P.cellsOf e ∧ TyPV P e y.2 := by
      intro i hi
      have h5 := h4 i hi
      rw [List.getElem?_eq_getElem (show i < elems.length by omega), Option.bind_eq_some_iff] at h5
      obtain ⟨vs, h6, h7⟩ := h5
      obtain ⟨q, h8, h9, h10⟩ := ih n (by omega) e vs _ he h7
      exact ⟨(vs, q), h6, h8, h9, h10⟩
     obtain ⟨L, hL, hLx⟩ := list_of len hex
     have hcell : ∀ (i : Nat) (y : List Value × List PV), L[i]? = some y → y.1.length = P.cellsOf e ∧ ∀ j, j < P.cellsOf e → w.cell? ((a.add (i * P.cellsOf e)).add j) = y.1[j]? := fun i y hy => (World.cells?_some (hLx i y hy).1).2
     have hlen : len = (L.map (·.2)).length := by simp [hL]
     refine ⟨[.sl (P.cellsOf e) (L.map (·.2))], ⟨rfl, fun j p u g1 g2 => ?_⟩, hone.symm, .sl hu fun q hq => ?_⟩
     · cases j with
       | succ j => simp at g1
       | zero =>
       simp at g1 g2
       subst g1 g2
       rw [hlen]
       refine .sl (vss := L.map (·.1)) (by omega) (by unfold maxLen at h2; omega) (fun hn => by simp at hn) (fun hne => ?_) (by simp) (fun i q hq => ?_) (fun i vs hvs => ?_) (fun i j q vs p u hq hvs hp hv => ?_)
       · have hpos : 0 < L.length := List.length_pos_iff.2 (by intro e; apply hne; simp [e])
         obtain ⟨y0, hy0⟩ : ∃ y, L[0]? = some y := ⟨L[0], List.getElem?_eq_getElem hpos⟩
         obtain ⟨c1, c2⟩ := hcell 0 y0 hy0
         have c3 := c2 0 hz
         rw [List.getElem?_eq_getElem (show 0 < y0.1.length by omega)] at c3
         simp only [Nat.zero_mul] at c3
         have hspot := World.cell?_spot c3
         have hlt : a.block < w.heap.size := by
          unfold World.cell? at c3
          have : (a.add 0).add 0 = a := by simp [Addr.add]
          rw [this] at c3
          split at c3
          · rename_i hh
            exact (Array.getElem?_eq_some_iff.1 hh).1
          · simp at c3
         have ha : a = ⟨a.block, a.off, none⟩ := by
          cases a
          simp [Addr.add] at hspot
          simp [hspot]
         refine ⟨a.block, a.off, by rw [← ha], hlt, fun i vs hvs j hj => ?_⟩
         rw [List.getElem?_map] at hvs
         cases hq : L[i]? with
         | none => rw [hq] at hvs; simp at hvs
         | some y =>
           rw [hq] at hvs
           obtain rfl := Option.some.inj hvs
           obtain ⟨d1, d2⟩ := hcell i y hq
           have hj' : j < y.1.length := hj
           rw [← d2 j (by omega), ha, q4r, q4r]
       · rw [List.getElem?_map] at hq
         cases hy : L[i]? with
         | none => rw [hy] at hq; simp at hq
         | some y =>
           rw [hy] at hq
           obtain rfl := Option.some.inj hq
           exact (hLx i y hy).2.2.1
       · rw [List.getElem?_map] at hvs
         cases hy : L[i]? with
         | none => rw [hy] at hvs; simp at hvs
         | some y =>
           rw [hy] at hvs
           obtain rfl := Option.some.inj hvs
           exact (hcell i y hy).1
       · rw [List.getElem?_map] at hq hvs
         cases hy : L[i]? with
         | none => rw [hy] at hq; simp at hq
         | some y =>
           rw [hy] at hq hvs
           obtain rfl := Option.some.inj hq
           obtain rfl := Option.some.inj hvs
           exact (hLx i y hy).2.1.2 j p u hp hv
     · obtain ⟨y, hy, rfl⟩ := List.mem_map.1 hq
       obtain ⟨i, hi⟩ := List.mem_iff_getElem?.1 hy
       exact (hLx i y hi).2.2.2
 · rename_i fs hu
   simp only [Bool.and_eq_true] at hk
   obtain ⟨htl, hin⟩ := hk
   obtain ⟨xs, n, rfl, _, h1, h2, h3⟩ := DataW.trod_struct hu h
   obtain ⟨ps, hp1, hp2, hp3⟩ := tile_rep (P := P) (w := w) (ro := fun b => b < w.heap.size) (cs := cs) h1 fs.toList 0 (Nat.zero_le _) htl fun f hf => by
    obtain ⟨i, hi⟩ := List.mem_iff_getElem?.1 hf
    have hi' : fs[i]? = some f := by simpa using hi
    have hlt := (Array.getElem?_eq_some_iff.1 hi').1
    have h4 := h3 i f hi'
    rw [List.getElem?_eq_getElem (show i < xs.length by omega)] at h4
    have hm : f.type ∈ l := by simpa using List.all_eq_true.1 hin f hf
    obtain ⟨q, h5, h6, h7⟩ := ih n (by omega) f.type _ _ hm h4
    exact ⟨q, h5, h6, h7⟩
   refine ⟨ps, by simpa using hp1, by rw [hp2]; simp, .struct hu (by rw [hp2]; simp) fun i f hf => ?_⟩
   simpa using (hp3 i f (by simpa using hf)).2
 · simp at hk
def TyAV (P : Program) (t : TypeId) (x : AV) : Prop := ∃ ps, TyPV P t ps ∧ (((∃ fs, P.underlying t = some (.struct fs)) ∧ x = .agg (ps.map .c)) ∨ ((∀ fs, P.underlying t ≠ some (.struct fs)) ∧ ∃ q, ps = [q] ∧ x = .c q))
theorem prepL_rep {W : World} {ro : Nat → Prop} {φ : Nat → Value} {h : Nat → Option Blkd} {ps : List PV} {cs : List Value} (hp : q14 W ro ps cs) : Rep W ro φ h (.agg (ps.map .c)) (.agg cs.toArray) := by
 refine .agg (by simp [hp.1]) fun j x v h1 h2 => ?_
 rw [List.getElem?_map] at h1
 cases hq : ps[j]? with
 | none => rw [hq] at h1; simp at h1
 | some p =>
   rw [hq] at h1
   obtain rfl := Option.some.inj h1
   exact .c (hp.2 j p v hq h2)
theorem prepL_one {W : World} {ro : Nat → Prop} {φ : Nat → Value} {h : Nat → Option Blkd} {ps : List PV} {v : Value} (hp : q14 W ro ps [v]) : ∃ q, ps = [q] ∧ Rep W ro φ h (.c q) v := by
 have := hp.1
 match ps, this with
 | [q], _ => exact ⟨q, rfl, .c (hp.2 0 q v rfl rfl)⟩
theorem open_arg {l : List TypeId} (hl : plainB P l = true) {t : TypeId} (ht : t ∈ l) {r : Reach} {base : Nat} {v : Value} {d : DataW H} {p : List MemPlace} (hval : Value.okWide P w r base t v) (h : DataW.Trod enc P w 0 sp held t v d p) :
  ∃ x, TyAV P t x ∧ Rep w (fun b => b < w.heap.size) φ0 h0 x v := by
 obtain ⟨fuel, hf⟩ := h
 obtain ⟨ps, h1, _, h3⟩ := open_pv hl fuel t _ _ ht hf
 have hk := List.all_eq_true.1 hl t ht
 have key : (∀ fs, P.underlying t ≠ some (.struct fs)) → v.cells.toList = [v] → ∃ x, TyAV P t x ∧ Rep w (fun b => b < w.heap.size) φ0 h0 x v := by
  intro hn hc
  rw [hc] at h1
  obtain ⟨q, rfl, hr⟩ := prepL_one (φ := φ0) (h := h0) h1
  exact ⟨_, ⟨_, h3, .inr ⟨hn, q, rfl, rfl⟩⟩, hr⟩
 split at hk
 · rename_i hu
   obtain ⟨b, rfl⟩ := okWide_bool hu hval
   exact key (by simp [hu]) rfl
 · rename_i k hu
   obtain ⟨n, rfl⟩ := okWide_int hu hval
   exact key (by simp [hu]) rfl
 · rename_i hu
   obtain ⟨s, rfl⟩ := okWide_string hu hval
   exact key (by simp [hu]) rfl
 · rename_i e hu
   obtain ⟨a, len, cap, rfl⟩ := okWide_slice hu hval
   exact key (by simp [hu]) rfl
 · rename_i fs hu
   obtain ⟨cs, rfl, _⟩ := okWide_struct hu hval
   exact ⟨_, ⟨_, h3, .inl ⟨⟨fs, hu⟩, rfl⟩⟩, by simpa [Value.cells] using prepL_rep h1⟩
 · simp at hk
theorem reps_nil {W : World} {ro : Nat → Prop} {φ : Nat → Value} {h : Nat → Option Blkd} : ∀ (j : Nat) (x : AV) (v : Value), ([] : List AV)[j]? = some x → ([] : List Value)[j]? = some v → Rep W ro φ h x v := fun j x v h1 => by simp at h1
theorem reps_cons {W : World} {ro : Nat → Prop} {φ : Nat → Value} {h : Nat → Option Blkd} {y : AV} {u : Value} {l : List AV} {vs : List Value} (hy : Rep W ro φ h y u) (hs : ∀ (j : Nat) (x : AV) (v : Value), l[j]? = some x → vs[j]? = some v → Rep W ro φ h x v) :
  ∀ (j : Nat) (x : AV) (v : Value), (y :: l)[j]? = some x → (u :: vs)[j]? = some v → Rep W ro φ h x v := fun j x v h1 h2 => by
 cases j with
 | zero => simp at h1 h2; subst h1 h2; exact hy
 | succ j => exact hs j x v (by simpa using h1) (by simpa using h2)
end
end
section

section
variable {P : Program}
theorem ty_str {t : TypeId} {ps : List PV} (h : TyPV P t ps) (hu : P.underlying t = some .string) : ∃ s : List UInt8, ps = [.v (.string (str s))] ∧ s.length ≤ maxLen := by
 cases h with
 | @str _ s ht hs => exact ⟨s.data.toList, by rw [str_of], by rw [← q2f, str_of]; exact hs⟩
 | bool ht => simp [ht] at hu
 | int ht hw => simp [ht] at hu
 | sl ht hx => simp [ht] at hu
 | struct ht hl hx => simp [ht] at hu
end
theorem arg_str {x : AV} (h : TyAV Tryz.prog 9 x) : ∃ s : List UInt8, s.length ≤ maxLen ∧ x = .c (.v (.string (str s))) := by
 obtain ⟨ps, h1, h2⟩ := h
 obtain ⟨s, rfl, hs⟩ := ty_str h1 Tryz.underlying9
 rcases h2 with ⟨⟨fs, h2⟩, _⟩ | ⟨_, q, h2, rfl⟩
 · simp [Tryz.underlying9] at h2
 · simp at h2
   subst h2
   exact ⟨s, hs, rfl⟩
end
section

theorem gWords : Tryz.prog.globalNamed "avocet/naming.words" = some 1 := by kernel_rfl
theorem tWords : (Tryz.prog.globals[1]?).map (·.type) = some 170 := by kernel_rfl
theorem uWords : Tryz.prog.underlying 170 = some (.array 15 9) := by kernel_rfl
theorem cWords : Tryz.prog.cellsOf 9 = 1 := by kernel_rfl
theorem onlyWords : ((List.range Tryz.prog.globals.size).all fun g => g == 1 || (glob Tryz.prog g).isNone) = true := by kernel_rfl
theorem globWords : glob Tryz.prog 1 = some (q2s.map fun w => PV.v (.string (str w))) := by kernel_rfl
theorem j6n {W : World} (h : laidMetH Tryz.prog [("avocet/naming.words", Rows.laid_avocet_naming_words)] W) :
  ∃ cs : Array Value, (∀ i, W.cell? ⟨1, i, none⟩ = cs[i]?) ∧ cs.size = 15 ∧ ∀ (i : Nat) (w : List UInt8), q2s[i]? = some w → cs[i]? = some (.string (str w)) := by
 rw [MakeChecks.laidMetH_plain _ _ _ (by kernel_rfl)] at h
 obtain ⟨ps, ⟨g0, t0, cs0, f0, p0, q0, hg0, ht0, hv0, hd0, _, _⟩, _, _⟩ := h
 obtain rfl := Option.some.inj (gWords.symm.trans hg0)
 obtain rfl := Option.some.inj (tWords.symm.trans ht0)
 obtain ⟨xs, m1, rfl, hx1, hlen, hn15, hel⟩ := DataW.trod_array uWords hd0
 simp only [Rows.laid_avocet_naming_words, Prod.mk.injEq, DataW.agg.injEq] at hx1
 have hx2 : q2s.map (fun w => (DataW.lit (.string w) : DataW Unit)) = xs.map (·.1) := hx1.1
 have hat : ∀ i, i < 15 → ∃ s : ByteArray, cs0[i]? = some (.string s) ∧ ∃ x, xs[i]? = some x ∧ x.1 = .lit (.string s.data.toList) := by
  intro i hi
  obtain ⟨x, hx⟩ : ∃ x, xs[i]? = some x := ⟨xs[i]'(by omega), List.getElem?_eq_getElem (by omega)⟩
  have h1 := hel i hi
  rw [hx] at h1
  obtain ⟨s, e1, e2, _⟩ := DataW.trod_string Tryz.underlying9 h1
  rw [cWords, Nat.mul_one] at e1
  refine ⟨s, ?_, x, hx, by rw [e2]⟩
  have h2 : (cs0.toList.drop i)[0]? = some (.string s) := by
   have h3 : ((cs0.toList.drop i).take 1)[0]? = some (.string s) := by rw [e1]; rfl
   rwa [List.getElem?_take_of_lt (by decide)] at h3
  rw [List.getElem?_drop, Nat.add_zero] at h2
  simpa using h2
 refine ⟨cs0, fun i => World.var?_cell hg0 hv0 i, ?_, fun i w hw => ?_⟩
 · have := hlen
   rw [show Tryz.prog.cellsOf 170 = 15 by kernel_rfl] at this
   simpa using this
 · have hi : i < 15 := (List.getElem?_eq_some_iff.1 hw).1
   obtain ⟨s, h1, x, h2, h3⟩ := hat i hi
   have h4 : (xs.map (·.1))[i]? = some (.lit (.string w)) := by rw [← hx2, List.getElem?_map, hw]; rfl
   rw [List.getElem?_map, h2] at h4
   have h5 : x.1 = .lit (.string w) := Option.some.inj h4
   rw [h3] at h5
   have h6 : s.data.toList = w := Lit.string.inj (DataW.lit.inj h5)
   have h7 : s = str w := by
    apply ByteArray.ext
    rw [← h6]
    show s.data = s.data.toList.toArray
    exact (Array.toArray_toList).symm
   rw [h1, h7]
theorem gok_words {W : World} (h : laidMetH Tryz.prog [("avocet/naming.words", Rows.laid_avocet_naming_words)] W) : GOk Tryz.prog W (fun k => k < W.heap.size) := by
 obtain ⟨cs, h1, h2, h3⟩ := j6n h
 intro g cells hc
 have hg : g = 1 := by
  by_cases hlt : g < Tryz.prog.globals.size
  · have := List.all_eq_true.1 onlyWords g (List.mem_range.2 hlt)
    rw [hc] at this
    simpa using this
  · unfold glob at hc
    rw [Array.getElem?_eq_none (by omega)] at hc
    simp at hc
 subst hg
 rw [globWords] at hc
 obtain rfl := Option.some.inj hc
 refine ⟨?_, cs.toList, fun j hj => ?_, ⟨by simp [h2, q2s], fun j p v hp hv => ?_⟩⟩
 · have h4 := h1 0
   rw [h3 0 [] rfl] at h4
   by_cases hlt : 1 < W.heap.size
   · exact hlt
   · unfold World.cell? at h4
     simp only [] at h4
     rw [Array.getElem?_eq_none (by omega)] at h4
     simp at h4
 · rw [Nat.zero_add, h1 j]
   simp
 · rw [List.getElem?_map] at hp
   cases hw : q2s[j]? with
   | none => rw [hw] at hp; simp at hp
   | some w =>
     rw [hw] at hp
     obtain rfl := Option.some.inj hp
     have h5 := h3 j w hw
     rw [Array.getElem?_toList] at hv
     rw [h5] at hv
     obtain rfl := Option.some.inj hv
     exact .v rfl
section
variable {P : Program} {w : World}
theorem law_toldG (hg : GOk P w (fun k => k < w.heap.size)) {f : FuncId} {args : List AV} (hT : Told P f args (.c (.v (.bool true)))) {vs : List Value} (hl : vs.length = args.length) (hr : ∀ (j : Nat) (x : AV) (v : Value), args[j]? = some x → vs[j]? = some v → Rep w (fun b => b < w.heap.size) φ0 h0 x v) :
  Calls P f vs.toArray w fun e W' => e = .returned (.bool true) ∧ Below w.heap.size w W' := by
 refine (hT.2 w (fun k => k < w.heap.size) vs (fun _ h => h) hg ⟨hl, hr⟩).mono ?_
 rintro e W' ⟨v, ro', rfl, hb, _, _, hr, _⟩
 obtain rfl := q0x hr
 exact ⟨rfl, hb⟩
end
end
end
end Go.Proofs.YthkofkaocipomaaGreatDoor
