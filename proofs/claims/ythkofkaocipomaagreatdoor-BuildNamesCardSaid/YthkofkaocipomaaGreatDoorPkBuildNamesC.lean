/- Texts that lead to the law BuildNames, joined. -/
import Derived.Test.YthkofkaocipomaaGreatDoorPkBuildNamesXEz
import Derived.Test.YthkofkaocipomaaGreatDoorPkBuildNamesA
import Derived.Test.YthkofkaocipomaaGreatDoorPkBuildNamesB
import Derived.Test.YthkofkaocipomaaGreatDoorPkBuildNamesXAbB
import Derived.ProofKit
import Derived.OpenShut
import Derived.ChangeOld
import Derived.Below
import Derived.Test.YthkofkaocipomaaGreatDoorRows
import Derived.MakeChecks
import Derived.LaidMore
namespace Go.Proofs.YthkofkaocipomaaGreatDoor
set_option maxRecDepth 100000
set_option maxHeartbeats 6400000
open Go.RowKit
set_option linter.unusedVariables false
set_option linter.unusedSimpArgs false

def w12J : JT := objJ [(q0y, q1b [114, 101, 99, 111, 114, 100]), (q1g, q1b [114]), (q0u, q1b [110]), (q70, listJ [objJ [(q1g, q1b [102]), (q0y, listJ [q1b [110, 117, 108, 108], q1b [114]])]])]
theorem w12_right : jR w12J = true := by
 rw [q5p]
 decide +kernel
theorem w12_sm : w12J.sm 4294967296 := by
 simp [w12J, objJ, listJ, q1b, JT.sm, JT.smL, q0y, q1g, q0u, q70]
def w12B : List UInt8 := [123, 34, 116, 121, 112, 101, 34, 58, 34, 114, 101, 99, 111, 114, 100, 34, 44, 34, 110, 97, 109, 101, 34, 58, 34, 114, 34, 44, 34, 110, 97, 109, 101, 115, 112, 97, 99, 101, 34, 58, 34, 110, 34, 44,
 34, 102, 105, 101, 108, 100, 115, 34, 58, 91, 123, 34, 110, 97, 109, 101, 34, 58, 34, 102, 34, 44, 34, 116, 121, 112, 101, 34, 58, 91, 34, 110, 117, 108, 108, 34, 44, 34, 114, 34, 93, 125, 93, 125]
def nP : PV := .v (.slice none 0 0)
def txP (l : List UInt8) : List PV := [.v (.int .i64 4), .v (.int .i64 0), .v (.string ⟨l.toArray⟩), nP, nP]
def lsP (l : List (List PV)) : List PV := [.v (.int .i64 5), .v (.int .i64 0), .v (.string ⟨#[]⟩), .sl 5 l, nP]
def obP (k : List (List UInt8)) (l : List (List PV)) : List PV := [.v (.int .i64 6), .v (.int .i64 0), .v (.string ⟨#[]⟩), .sl 5 l, .sl 1 (k.map fun x => [.v (.string ⟨x.toArray⟩)])]
def w12P : List PV := obP [q0y, q1g, q0u, q70] [txP [114, 101, 99, 111, 114, 100], txP [114], txP [110], lsP [obP [q1g, q0y] [txP [102], lsP [txP [110, 117, 108, 108], txP [114]]]]]
def isOi (l : List Nat) : FuncId → Bool := fun f => Nat.beq f 155 || Nat.beq f 139 || l.any (Nat.beq f)
def orci (l : List (FuncId × List AV × AV)) : FuncId → List AV → Option AV := fun f a => match Nat.beq f 155, Nat.beq f 139, a with
 | true, _, [.c (.v (.string s)), .c (.v (.int .u8 b))] => some (.c (.v (.int .i64 (Lib.indexByte s.data.toList b.toNat.toUInt8))))
 | _, true, [.c (.v (.string s)), .c (.v (.string t))] => match Ex.sEq t ⟨#[46]⟩ with | true => some (.c (.v (.int .i64 (Lib.indexByte s.data.toList 46)))) | false => none
 | _, _, _ => Ex.orcL l f a
theorem orci_ok {l : List (FuncId × List AV × AV)} (hl : ∀ p ∈ l, ToldM Tryz.prog p.1 p.2.1 [] [] p.2.2) : ∀ f args y, orci l f args = some y → ToldM Tryz.prog f args [] [] y := by
 intro f args y h
 unfold orci at h
 split at h
 · rename_i h1
   rw [Nat.beq_eq] at h1
   subst h1
   obtain rfl := Option.some.inj h
   exact (j2k _ _).m rfl rfl
 · rename_i h1
   rw [Nat.beq_eq] at h1
   subst h1
   split at h
   · rename_i h2
     obtain rfl := Option.some.inj h
     rw [Ex.sEq_ok h2]
     have h3 : ∀ s : ByteArray, ToldM Tryz.prog 139 [.c (.v (.string s)), .c (.v (.string ⟨#[46]⟩))] [] [] (.c (.v (.int .i64 (Lib.indexByte s.data.toList 46)))) := fun s => by
      have := j2l s.data.toList
      rw [str_of] at this
      exact this.m rfl rfl
     exact h3 _
   · simp at h
 · exact Ex.orcL_ok hl h
def envi (P : Program) (fz : List Nat) (l : List (FuncId × List AV × AV)) : Ex.Env := Ex.env P (isOi (l.map (·.1))) (fun f => fz.any (Nat.beq f)) (orci l)
theorem run_i {fz : List Nat} {l : List (FuncId × List AV × AV)} (hl : ∀ p ∈ l, ToldM Tryz.prog p.1 p.2.1 [] [] p.2.2) {n : Nat} {f : FuncId} {args : List AV} {y : AV} (h : Ex.runF (envi Tryz.prog fz l) (Ex.ex (envi Tryz.prog fz l) n) f args [] = .ok ([], y)) : ToldM Tryz.prog f args [] [] y :=
 Ex.run_told (Ex.env_ok mixP (orci_ok hl)) h
theorem w12_parse : ToldM Tryz.prog 33 [.c (.sl 1 (q1v w12B))] [] [] (.tup [.agg (w12P.map .c), .c (.v (.int .i64 0))]) :=
 run_i (fz := [33]) (l := []) (by simp) (n := 3000) (by kernel_rfl)
theorem w12_r : ToldM Tryz.prog 34 [w12J.av] [] [] (.c (.v (.bool true))) := by
 have := j2n w12J w12_sm
 rw [w12_right] at this
 exact this.m (by simp [JT.av_eq, AV.pureL, AV.pureB, q2a]) rfl

theorem w12_all : ToldM Tryz.prog 12 [] [] [] (.c (.v (.bool true))) :=
 run_i (fz := []) (l := [(33, [.c (.sl 1 (q1v w12B))], .tup [.agg (w12P.map .c), .c (.v (.int .i64 0))]), (34, [w12J.av], .c (.v (.bool true)))])
  (fun p hp => by
   simp only [List.mem_cons, List.not_mem_nil, or_false] at hp
   rcases hp with rfl | rfl
   · exact w12_parse
   · exact w12_r) (n := 3000) (by kernel_rfl)
theorem j60 : Told Tryz.prog 12 [] (.c (.v (.bool true))) := w12_all.told rfl rfl

structure Fits (full : List NT) (hs : List HN) (new : List NT) : Prop where
 heads : ∀ (i : Nat) (h : HN), hs[i]? = some h → ∃ n, full[i]? = some n ∧ q4v n = h
 nodes : ∀ (i : Nat) (n : NT), new[i]? = some n → full[hs.length + i]? = some n
theorem Fits.kind {full : List NT} {hs : List HN} {new : List NT} (h : Fits full hs new) {k : Nat} (hk : k < hs.length) : q3r full k = kindH hs k := by
 obtain ⟨n, h1, h2⟩ := h.heads k _ (List.getElem?_eq_getElem hk)
 unfold q3r kindH
 rw [h1, List.getElem?_eq_getElem hk, ← h2]
 rfl
theorem Fits.left {full : List NT} {hs : List HN} {a b : List NT} (h : Fits full hs (a ++ b)) : Fits full hs a :=
 ⟨h.heads, fun i n hn => h.nodes i n (by rw [List.getElem?_append_left (List.getElem?_eq_some_iff.1 hn).1]; exact hn)⟩
theorem Fits.right {full : List NT} {hs : List HN} {a b : List NT} (h : Fits full hs (a ++ b)) : Fits full (hs ++ a.map q4v) b := by
 refine ⟨fun i x hx => ?_, fun i n hn => ?_⟩
 · by_cases hi : i < hs.length
   · rw [List.getElem?_append_left hi] at hx
     exact h.heads i x hx
   · rw [List.getElem?_append_right (by omega), List.getElem?_map] at hx
     obtain ⟨n, h1, rfl⟩ := Option.map_eq_some_iff.1 hx
     have := h.nodes (i - hs.length) n (by rw [List.getElem?_append_left (List.getElem?_eq_some_iff.1 h1).1]; exact h1)
     rw [show hs.length + (i - hs.length) = i by omega] at this
     exact ⟨n, this, rfl⟩
 · have := h.nodes (a.length + i) n (by rw [List.getElem?_append_right (by omega), show a.length + i - a.length = i by omega]; exact hn)
   rw [List.length_append, List.length_map, Nat.add_assoc]
   exact this
def OrdN (d : Nat) (hs : List HN) (new : List NT) (k : Int) : Prop :=
 (new = [] ∧ 0 ≤ k ∧ k < (hs.length : Int) ∧ q20 (kindH hs k.toNat) = true) ∨
 (k = (hs.length : Int) ∧ new ≠ [] ∧ hs.length + new.length ≤ 200 ∧ ∀ full, Fits full hs new → q15 full d hs.length = (true, hs.length + new.length))
theorem OrdN.len {d : Nat} {hs : List HN} {new : List NT} {k : Int} (hl : hs.length ≤ 200) (h : OrdN d hs new k) : hs.length + new.length ≤ 200 := by
 rcases h with ⟨rfl, _⟩ | ⟨_, _, h, _⟩
 · simpa using hl
 · exact h
theorem OrdN.lt {d : Nat} {hs : List HN} {new : List NT} {k : Int} (h : OrdN d hs new k) : 0 ≤ k ∧ k < ((hs.length + new.length : Nat) : Int) := by
 rcases h with ⟨rfl, h1, h2, _⟩ | ⟨rfl, h1, _⟩
 · simp; omega
 · have := List.length_pos_iff.2 h1
   omega
theorem OrdN.step {d : Nat} {hs : List HN} {new : List NT} {k : Int} (h : OrdN d hs new k) {full : List NT} (hf : Fits full hs new) {ks : List Int} {q : Nat} (hr : q2w full (q15 full d) ks (hs.length + new.length) = (true, q)) :
  q2w full (q15 full d) (k :: ks) hs.length = (true, q) := by
 rw [q2w]
 rcases h with ⟨rfl, h1, h2, h3⟩ | ⟨rfl, _, _, h⟩
 · rw [if_neg (by omega), if_neg (by
    rw [hf.kind (by omega), h3]
    simp
    omega)]
   simpa using hr
 · rw [if_pos rfl, h full hf]
   simpa using hr

/-! Trees' parts. -/
theorem jget_its {j i : JT} {key : List UInt8} (h : jget j key = some i) : j.kd = 6 ∧ i ∈ j.its := by
 cases j with
 | mk k n s ks xs =>
   unfold jget at h
   simp only [] at h
   split at h
   · rename_i hk
     exact ⟨hk.1, List.mem_of_getElem? h⟩
   · simp at h
structure Ok (D : Nat) (j : JT) : Prop where
 shape : q3a j = true
 deep : q1n j ≤ D
theorem j3y : ∀ {xs : List JT}, q3b xs = true → ∀ x ∈ xs, q3a x = true
 | x :: xs, h, y, hy => by
   rw [q3b, Bool.and_eq_true] at h
   rcases List.mem_cons.1 hy with rfl | hy
   · exact h.1
   · exact j3y h.2 y hy
theorem Ok.item {D : Nat} {j x : JT} (h : Ok D j) (hk : j.kd = 5 ∨ j.kd = 6) (hx : x ∈ j.its) : 1 ≤ D ∧ Ok (D - 1) x := by
 obtain ⟨h1, h2⟩ := h
 cases j with
 | mk k n s ks xs =>
   simp only [JT.kd, JT.its] at hk hx
   rw [q1n, if_pos hk] at h2
   have := (j4e xs 1).2 x hx
   rw [q3a, Bool.and_eq_true] at h1
   exact ⟨by omega, j3y h1.2 x hx, by omega⟩
theorem Ok.get {D : Nat} {j x : JT} (h : Ok D j) {key : List UInt8} (hx : jget j key = some x) : 1 ≤ D ∧ Ok (D - 1) x := by
 obtain ⟨h1, h2⟩ := jget_its hx
 exact h.item (.inr h1) h2
theorem Ok.right {D : Nat} {j : JT} (h : Ok D j) (hD : D ≤ 32) : jR j = true := by
 rw [q5p, h.shape]
 have := h.deep
 simp
 omega
theorem Ok.mono {D E : Nat} {j : JT} (h : Ok D j) (he : D ≤ E) : Ok E j := ⟨h.shape, Nat.le_trans h.deep he⟩
/-! Names. -/
/-! Nodes. -/

/-! Names are not told twice. -/

/-! How much a tree's depth lets it be built with. -/
/-! Places behind one more node. -/

def q6c (s : ST) : Bool := (List.range s.nodes.length).any fun i => decide (1000 < wOf s.nodes i)
theorem heavy_no {s : ST} (h : q6c s = false) : ∀ i, i < s.nodes.length → wOf s.nodes i ≤ 1000 := fun i hi => by
 unfold q6c at h
 rw [List.any_eq_false] at h
 have := h i (List.mem_range.2 hi)
 simpa using this
theorem heavy_of {s : ST} (h : ∀ i, i < s.nodes.length → wOf s.nodes i ≤ 1000) : q6c s = false := by
 unfold q6c
 rw [List.any_eq_false]
 intro i hi
 have := h i (List.mem_range.1 hi)
 simpa using this
/-! A refusal has a number. -/
/-! A union of one. -/

theorem j1r {l : List UInt8} (h : ∀ c ∈ l, c.toNat < 128) : ∀ (n p k : Nat), l.length - p ≤ n → (uCnt l p k).2 = 0
 | 0, p, k, hn => by rw [j02 (by omega)]
 | n + 1, p, k, hn => by
   by_cases hp : p < l.length
   · have hb : q1y l p = l[p] := by simp [q1y, hp]
     have hf : q1j (q1y l p) = 1 := by
      rw [hb]
      unfold q1j
      rw [if_pos (h _ (List.getElem_mem hp))]
     have he : uerr l p = 0 := by
      unfold uerr
      rw [if_pos hp, hf]
      rfl
     have hl : ulen l p = 1 := hf
     rw [j4h hp he, hl]
     exact j1r h n (p + 1) (k + 1) (by omega)
   · rw [j02 hp]
theorem q72 {l : List UInt8} (h : ∀ c ∈ l, c.toNat < 128) : q1m l = true := by
 unfold q1m
 rw [j1r h l.length 0 0 (by omega)]
 rfl
theorem j36 {s : List UInt8} (h : q2p s = true) : ∀ c ∈ s, c.toNat < 128 := by
 have key : ∀ c : UInt8, q3q c = true ∨ q5o c = true → c.toNat < 128 := fun c hc => by
  unfold q3q q5o at hc
  simp only [Bool.or_eq_true, Bool.and_eq_true, decide_eq_true_eq] at hc
  omega
 cases s with
 | nil => simp
 | cons a l =>
   rw [q2p, Bool.and_eq_true, List.all_eq_true] at h
   intro c hc
   rcases List.mem_cons.1 hc with rfl | hc
   · exact key _ (.inl h.1)
   · have := h.2 c hc
     rw [Bool.or_eq_true] at this
     exact key c this
theorem j3c {s : List UInt8} (h : okF s = true) : ∀ c ∈ s, c.toNat < 128 := by
 have key : ∀ n (s : List UInt8), s.length ≤ n → okF s = true → ∀ c ∈ s, c.toNat < 128 := by
  intro n
  induction n with
  | zero => intro s hs _; cases s <;> simp at hs ⊢
  | succ n ih =>
    intro s hs h
    rcases q4p s with ⟨h1, _⟩ | ⟨j, hj, h2, h3, h4⟩
    · rw [okF_none h1] at h
      exact j36 h
    · rw [h3, okF_dot h4, Bool.and_eq_true] at h
      have ht := ih (s.take j) (by simp; omega) h.1
      have hd := j36 h.2
      intro c hc
      rw [h3] at hc
      rcases List.mem_append.1 hc with hc | hc
      · exact ht c hc
      · rcases List.mem_cons.1 hc with rfl | hc
        · decide
        · exact hd c hc
 exact key s.length s (Nat.le_refl _) h
theorem j5i {s : List UInt8} (h : q2c s = true) : q1m s = true := by
 rw [q8n, Bool.and_eq_true] at h
 exact q72 (j3c h.2)
theorem kindM_at {w : List UInt8} {k : Nat} (h : q0x w = k) (hk : 1 ≤ k) : q2v[k]? = some w := by
 unfold q0x at h
 split at h
 · omega
 · split at h
   · rename_i i hi
     subst h
     obtain ⟨h1, h2, _⟩ := List.findIdx?_eq_some_iff_getElem.1 hi
     rw [List.getElem?_eq_getElem h1]
     simpa using h2
   · omega
theorem j2t {w : List UInt8} (h : 46 ∈ w) : q0x w = 0 := by
 apply Classical.byContradiction
 intro hk
 have h1 := kindM_at rfl (show 1 ≤ q0x w by omega)
 have : ∀ x ∈ q2v, 46 ∉ x := by decide
 exact this w (List.mem_of_getElem? h1) h
theorem heavy_one {n : NT} (hf : n.fields = []) : q6c ⟨[n], 0⟩ = false := by
 refine heavy_of fun i hi => ?_
 have : i = 0 := by simpa using hi
 subst this
 have hfa : q2x [n] 0 = [] := by unfold q2x; simp [hf]
 unfold wOf
 simp only [List.length_singleton, List.replicate_succ, List.replicate_zero]
 rw [q1s, show knAt [0] 0 = 0 from rfl, if_neg (by decide), if_neg (by decide), hfa, q2j]
 decide
theorem text_jR (w : List UInt8) : jR (q1b w) = q1m w := by
 rw [q5p]
 have : q1n (q1b w) = 0 := by simp [q1b, q1n]
 rw [this, q1b, q3a, q3b]
 simp [q43]
theorem obj_jR (l : List (List UInt8 × JT)) (hk : ∀ p ∈ l, q1m p.1 = true) (hn : (l.map Prod.fst).Nodup) (hx : ∀ p ∈ l, jR p.2 = true ∧ q1n p.2 = 0) : jR (objJ l) = true := by
 have hs : q3b (l.map Prod.snd) = true := by
  have : ∀ xs : List JT, (∀ x ∈ xs, q3a x = true) → q3b xs = true := by
   intro xs
   induction xs with
   | nil => intro _; rfl
   | cons x xs ih => intro h; rw [q3b, h x (by simp), ih fun y hy => h y (by simp [hy])]; rfl
  refine this _ fun x hx' => ?_
  obtain ⟨p, hp, rfl⟩ := List.mem_map.1 hx'
  have := (hx p hp).1
  rw [q5p, Bool.and_eq_true] at this
  exact this.2
 have hd : q1n (objJ l) ≤ 32 := by
  rw [objJ, q1n, if_pos (.inr rfl)]
  exact j4f _ 1 _ (by omega) fun x hx' => by
   obtain ⟨p, hp, rfl⟩ := List.mem_map.1 hx'
   have := (hx p hp).2
   omega
 rw [q5p, objJ, q3a, hs]
 rw [objJ] at hd
 have hr : q43 (.mk 6 0 [] (l.map Prod.fst) (l.map Prod.snd)) = false := by simp [q43, q9a]
 rw [hr]
 simp only [Bool.not_false, Bool.true_and, Bool.and_true, Bool.and_eq_true, decide_eq_true_eq, List.all_eq_true]
 exact ⟨hd, fun k hk' => by obtain ⟨p, hp, rfl⟩ := List.mem_map.1 hk'; exact hk p hp, hn⟩
/-! Names with a space of their own. -/
def q2m : List UInt8 := [102, 105, 120, 101, 100]
def nobjA (name : List UInt8) (z : Int) : JT := objJ [(q0y, q1b q2m), (q1g, q1b name), (q1d, .mk 3 z [] [] [])]
def nobjB (name : List UInt8) (z : Int) : JT := objJ [(q0y, q1b q2m), (q1g, q1b (q2e name)), (q0u, q1b (q1c name)), (q1d, .mk 3 z [] [] [])]
theorem q60 {name : List UInt8} (h : q1c name ≠ []) : ∃ j : Nat, 0 < j ∧ j < name.length ∧ dotI name = (j : Int) ∧ name = name.take j ++ 46 :: name.drop (j + 1) ∧ 46 ∉ name.drop (j + 1) := by
 rcases q4p name with ⟨h1, h2⟩ | ⟨j, hj, h2, h3, h4⟩
 · exact absurd (j4a h2) h
 · refine ⟨j, ?_, hj, h2, h3, h4⟩
   apply Classical.byContradiction
   intro h0
   have : j = 0 := by omega
   subst this
   exact h (by rw [q6j h2]; rfl)
theorem j2q {name : List UInt8} (h : q2c name = true) (hs : q1c name ≠ []) (a : List UInt8) : q11 a name = some name ∧ q11 (q1c name) (q2e name) = some name := by
 obtain ⟨j, h0, hj, h2, h3, h4⟩ := q60 hs
 refine ⟨?_, ?_⟩
 · unfold q11
   rw [if_pos (by omega), if_pos h]
 · have hl := q68 h2
   have hsp := q6j h2
   have hd : dotI (q2e name) = -1 := by rw [hl]; exact dotI_no h4
   have hf := h
   rw [q8n, Bool.and_eq_true, decide_eq_true_eq] at hf
   have hsim : q45 (q2e name) = true := by
    have h5 := hf.2
    rw [h3, okF_dot h4, Bool.and_eq_true] at h5
    unfold q45
    rw [hl, h5.2]
    simp
    omega
   have hjn : q1c name ++ 46 :: q2e name = name := by rw [hl, hsp]; exact h3.symm
   unfold q11
   rw [if_neg (by rw [hd]; decide), hsim, if_neg (by decide), if_neg hs, hjn, if_pos h]

theorem j5x {s : ST} (h : q3u s = true) : ∀ n ∈ s.nodes, n.kind = 9 → ∀ f ∈ n.fields, 0 ≤ f.type ∧ f.type < (s.nodes.length : Int) := fun n hn h9 f hf =>
 j5u h n hn f.type (by rw [q2u, if_pos h9]; exact List.mem_map.2 ⟨f, hf, rfl⟩)
section
attribute [local go_sem] opx opE ev okx q3y bnd okO AV.get AV.okb cAV q7x q86 q85 j08 q51 q8z q8y st q71 q4o q75 q76 q74 binV binI binS q3d q37 q3z q38 unV q4j q2z q2f q0j q1f Blkd.len setE grown q0r q3j q2g q1z pv q3n q2l q29 AV.cellish AV.pureL AV.pureB q8v q8f AV.ren AV.renL renL_c Blkd.ren rho wrM renN q1q rhoE q27 q3f tyA_2 tyA_3 tyA_4 tyA_5 tyA_6 tyA_7 tyA_8 tyA_9 tyA_10 tyA_11 tyA_12 tyA_13 tyA_14 tyA_15 tyA_16 tyA_17 tyA_18 tyA_19 tyA_21 tyA_22 tyA_23 tyA_24 tyA_25 tyA_28 tyA_29 tyA_30 tyA_31 tyA_37 tyA_38 tyA_39 tyA_40 tyA_47 tyA_50 tyA_58 tyA_59 tyA_60 tyA_64 tyA_65 tyA_66 tyA_71 tyA_72 tyA_88 tyA_89 tyA_90 tyA_91 tyA_99 q9k q9l q9m q9n q9o q9p q9q q9r q9s q9t q9u q9v q9w q9x q9y q9z q90 q91 q92 q93 q94 q95 q96 q97 q98 q99 j0a j0b j0c j0d j0e j0f j0g j0h j0i j0j j0k j0l j0m j0n j0o j0p j0q j0r j0s j0t j0u j0v j0w j0x j0y j0z j00 j01 Option.map_some Option.map_none Option.getD_some Option.getD_none Option.bind_some Option.bind_none List.getElem?_cons_zero List.getElem?_cons_succ List.getElem?_nil List.getElem?_toArray List.length_cons List.length_nil List.length_map List.forall_mem_map List.map_cons List.map_nil List.drop_zero List.drop_succ_cons List.drop_nil List.take_zero List.take_succ_cons List.take_nil List.mem_cons List.not_mem_nil or_false forall_eq_or_imp forall_eq List.set_cons_zero List.set_cons_succ List.cons_append List.nil_append List.append_nil List.foldl_cons List.foldl_nil List.replicate_succ List.replicate_zero List.all_cons List.all_nil if_true if_false Bool.false_eq_true ne_eq not_false_eq_true not_true_eq_false true_and and_true and_self true_implies imp_self implies_true forall_const beq_self_eq_true Bool.and_true Bool.true_and Bool.and_false Bool.false_and Bool.or_true Bool.true_or Bool.or_false Bool.false_or Bool.not_true Bool.not_false Bool.not_eq_eq_eq_not q4w Value.oneCell' Int.toNat_natCast beq_true beq_false Bool.not_eq_true false_implies false_or true_or or_true Nat.zero_add Nat.add_zero decide_true decide_false Int.cast_ofNat_Int Int.toNat_zero Int.toNat_one eq_self

theorem j55 (s : ST) (hsm : s.sm 1000000) (ho : q3u s = true) (p : Nat) (hp : p < s.nodes.length) : Told Tryz.prog 37 [s.av, .c (.v (.int .i64 (p : Int)))] (.c (.v (.int .i64 (wOf s.nodes p)))) := by
 obtain ⟨hl, hs⟩ := hsm
 have hO := j5w s hl hs
 rw [ho] at hO
 have hW := j6y s hl hs (j5x ho) (s.nodes.length + 1) p (List.replicate s.nodes.length 0) hp (by simp) (fun x hx => by obtain rfl := (List.mem_replicate.1 hx).2; decide) (by have := List.count_le_length (a := (0 : Int)) (l := List.replicate s.nodes.length 0); simp at this ⊢)
 have hwl : (rA iPV (q1s s.nodes (s.nodes.length + 1) p (List.replicate s.nodes.length 0)).2).length = s.nodes.length := by
  rw [q0c]
  exact (j07 s.nodes (s.nodes.length + 1) p _ (by simp) (fun x hx => by obtain rfl := (List.mem_replicate.1 hx).2; decide)).1
 obtain ⟨V, hV⟩ : ∃ V, V = wOf s.nodes p := ⟨_, rfl⟩
 rw [← hV]
 unfold wOf at hV
 rw [← hV] at hW
 generalize (q1s s.nodes (s.nodes.length + 1) p (List.replicate s.nodes.length 0)).2 = D at hW hwl
 clear hV
 rw [rA_rep] at hW
 simp only [ST.av_eq, q44, List.map_cons, List.map_nil] at hO hW
 have f0 : decide ((p : Int) < 0) = false := by simp
 have f1 : decide ((p : Int) ≥ (s.nodes.length : Int)) = false := by simp; omega
 rw [ST.av_eq, q44]
 refine VC.toldP ent_37 Tryz.func37 rfl Tryz.ntmps37 fun hb => ?_
 clear hb
 refine q0b (And.intro f0 f1) ?_
 refine q0k (hO) ?_
 (repeat (first | refine pass ?_ | refine VC.region (by rfl) (by rfl) ?_ | (refine AO.step fun K hK => ?_; simp only [List.length_replicate, go_sem, Int.reduceBEq, Int.reduceLE, Int.reduceLT, Int.reduceNeg, Nat.reduceAdd, Nat.reduceEqDiff, Nat.reduceLT, Nat.reduceLeDiff, Nat.reduceMul, Nat.reduceSub, reduceCtorEq, ↓reduceIte]; (first | refine q10 ?_ | refine q0q ?_ | skip); (first | refine hK _ _ _ ?_ | refine ⟨by first | omega | exact ⟨_, rfl, rfl⟩ | exact fun _ => ⟨_, rfl, rfl⟩ | (intro h; simp only [List.length_replicate, h, true_and]; omega) | (clear hK; intro h; simp_all <;> omega), hK _ _ _ ?_⟩); clear hK K) | refine VC.draw mixP (by rfl) (by rfl) ?_ | refine ⟨q13 (by kernel_rfl), ?_⟩ | refine BQ.other (by decide) ?_ | refine VC.seq ?_ | refine AO.nil ?_ | refine VC.block ?_ | refine VC.condT (by rfl) (by trivial) ?_ | refine VC.condF (by rfl) (by trivial) ?_))
 ((refine AO.step fun K hK => ?_; simp only [go_sem, Int.reduceBEq, Int.reduceLE, Int.reduceLT, Int.reduceNeg, Nat.reduceAdd, Nat.reduceEqDiff, Nat.reduceLT, Nat.reduceLeDiff, Nat.reduceMul, Nat.reduceSub, reduceCtorEq, ↓reduceIte, q0d, List.length_replicate, List.map_replicate]; (first | refine q0q ?_ | skip)); refine .inr (.inr (.inl ⟨?vy1, [168], ?va1, ?vl1, ?vm1, ?cond1, ?cont1⟩)); (case cond1 => ((repeat' apply And.intro) <;> (try ((with_reducible show ToldM _ _ _ _ _ _); exact hW))); (all_goals first | trivial | (simp only [q0d, List.length_replicate, List.map_replicate, go_sem, simprocAttr]; done) | (simp; done) | rfl)); (first | refine hK _ _ _ ?_ | (simp only [q0d, List.length_replicate, List.map_replicate, go_sem, simprocAttr]; first | refine hK _ _ _ ?_ | refine ⟨rfl, hK _ _ _ ?_⟩)); clear hK K)
 refine q0a ?_
 refine retX Tryz.results37 ?_
 exact .c _

noncomputable def ceq {α : Type} (a b : α) : Bool := @decide (a = b) (Classical.propDecidable _)
theorem q4a {α : Type} (a b : α) : ceq a b = true ↔ a = b := by simp [ceq]
theorem q6x {α : Type} (a b : α) : ceq a b = false ↔ a ≠ b := by simp [ceq]
theorem q8b {α : Type} (a : α) : ceq a a = true := (q4a a a).2 rfl

theorem j5k (ks ls : List Int) : Told Tryz.prog 48 [.c (.sl 1 (ks.map iPV)), .c (.sl 1 (ls.map iPV))] (.c (.v (.bool (ks == ls)))) := by
 refine VC.told ent_48 Tryz.func48 rfl Tryz.ntmps48 (by simp) rfl rfl fun hb => ?_
 simp only [q3m, q3w, List.mem_cons, List.not_mem_nil, or_false, forall_eq_or_imp, forall_eq, List.length_map] at hb
 have h1 := hb.1.1
 have h2 := hb.2.1
 clear hb
 refine q0a ?_
 refine VC.cond (by rfl) (by trivial) (fun hc => ?_) (fun hc => ?_)
 · have hne : (ks == ls) = false := by
    rw [beq_eq_false_iff_ne]
    intro e
    subst e
    simp at hc
   refine q0a ?_
   refine ⟨.inr rfl, ?_⟩
   rw [Tryz.results48, hne]
   simp only [q0n, resV, go_sem, simprocAttr]
   exact .c _
 · have hlen : ks.length = ls.length := by
    simp at hc
    omega
   refine q0a ?_
   refine VC.loop (ι := {i : Nat // i ≤ ks.length ∧ ks.take i = ls.take i}) (fun i => [(0, .c (.sl 1 (ks.map iPV))), (1, .c (.sl 1 (ls.map iPV))), (12, .c (.v (.int .i64 ks.length))), (13, .c (.v (.int .i64 i.1)))]) (fun _ => []) 0 (fun i => ks.length - i.1) ⟨0, Nat.zero_le _, rfl⟩ ?_ ?_
   · simp only [Weak, eq_self, q07, q01, sc_c, q03, q04, q05, q00, q02, ScL, q06, List.forall_mem_map, go_sem, Int.reduceBEq, Int.reduceLE, Int.reduceLT, Int.reduceNeg, Nat.reduceAdd, Nat.reduceEqDiff, Nat.reduceLT, Nat.reduceLeDiff, Nat.reduceMul, Nat.reduceSub, reduceCtorEq, ↓reduceIte]
     all_goals rfl
   rintro ⟨i, hi, ht⟩
   refine q0a ?_
   refine VC.cond (by rfl) (by trivial) (fun hc => ?_) (fun hc => ?_)
   · simp only [decide_eq_true_eq] at hc
     obtain ⟨x, hx⟩ : ∃ x, ks[i]? = some x := ⟨ks[i], List.getElem?_eq_getElem (by omega)⟩
     obtain ⟨y, hy⟩ : ∃ y, ls[i]? = some y := ⟨ls[i], List.getElem?_eq_getElem (by omega)⟩
     have hw : IntKind.i64.wrap ((i : Int) + 1) = (i : Int) + 1 := q1i (by omega) (by omega)
     have htn := j4d hx hy ht
     (repeat (first | refine pass ?_ | refine VC.region (by rfl) (by rfl) ?_ | (refine AO.step fun K hK => ?_; simp only [List.getElem?_map, hx, hy, iPV, go_sem, Int.reduceBEq, Int.reduceLE, Int.reduceLT, Int.reduceNeg, Nat.reduceAdd, Nat.reduceEqDiff, Nat.reduceLT, Nat.reduceLeDiff, Nat.reduceMul, Nat.reduceSub, reduceCtorEq, ↓reduceIte]; (first | refine q10 ?_ | refine q0q ?_ | skip); (first | refine hK _ _ _ ?_ | refine ⟨by first | omega | exact ⟨_, rfl, rfl⟩ | exact fun _ => ⟨_, rfl, rfl⟩ | (intro h; simp only [List.getElem?_map, hx, hy, iPV, h, true_and]; omega) | (clear hK; intro h; simp_all <;> omega), hK _ _ _ ?_⟩); clear hK K) | refine VC.draw mixP (by rfl) (by rfl) ?_ | refine ⟨q13 (by kernel_rfl), ?_⟩ | refine BQ.other (by decide) ?_ | refine VC.seq ?_ | refine AO.nil ?_ | refine VC.block ?_))
     refine VC.cond (by rfl) (by trivial) (fun hc2 => ?_) (fun hc2 => ?_)
     · have hne : (ks == ls) = false := by
        rw [beq_eq_false_iff_ne]
        intro e
        subst e
        rw [hx] at hy
        obtain rfl := Option.some.inj hy
        simp at hc2
       refine q0a ?_
       refine ⟨.inr rfl, ?_⟩
       rw [Tryz.results48, hne]
       simp only [q0n, resV, go_sem, simprocAttr]
       exact .c _
     · have hxy : x = y := by simpa using hc2
       refine q0b (hw) ?_
       refine .next ⟨i + 1, by omega, htn.2 hxy⟩ ?_ (by simp only []; omega)
       refine q4k ?_
       exact cI (by omega)
   · simp only [decide_eq_false_iff_not] at hc
     obtain rfl : i = ks.length := by omega
     have heq : (ks == ls) = true := by
      rw [List.take_length, hlen, List.take_length] at ht
      simp [ht]
     refine q0a ?_
     refine ⟨.inr rfl, ?_⟩
     rw [Tryz.results48, heq]
     simp only [q0n, resV, go_sem, simprocAttr]
     exact .c _

theorem j5e {g : FuncId} (xs ys : List FT) (hcall : ∀ x ∈ xs, ∀ y, Told Tryz.prog g [x.av, y.av] (.c (.v (.bool (ceq x y))))) :
  Told Tryz.prog 47 [.c (.sl 9 (xs.map FT.cells)), .c (.sl 9 (ys.map FT.cells)), .c (.v (.func (.func g) ⟨[]⟩ ⟨[]⟩))] (.c (.v (.bool (ceq xs ys)))) := by
 refine VC.told ent_47 Tryz.func47 rfl Tryz.ntmps47 (by simp) (by simp [AV.pureB, AV.pureL]) rfl fun hb => ?_
 simp only [q3m, q3w, List.mem_cons, List.not_mem_nil, or_false, forall_eq_or_imp, forall_eq, List.length_map] at hb
 have h1 := hb.1.1
 have h2 := hb.2.1.1
 clear hb
 refine q0a ?_
 refine VC.cond (by rfl) (by trivial) (fun hc => ?_) (fun hc => ?_)
 · have hne : ceq xs ys = false := by
    rw [q6x]
    intro e
    subst e
    simp at hc
   refine q0a ?_
   refine ⟨.inr rfl, ?_⟩
   rw [Tryz.results47, hne]
   simp only [q0n, resV, go_sem, simprocAttr]
   exact .c _
 · have hlen : xs.length = ys.length := by
    simp at hc
    omega
   refine q0a ?_
   refine VC.loop (ι := {i : Nat // i ≤ xs.length ∧ xs.take i = ys.take i}) (fun i => [(1, .c (.sl 9 (ys.map FT.cells))), (2, .c (.v (.func (.func g) ⟨[]⟩ ⟨[]⟩))), (15, .c (.sl 9 (xs.map FT.cells))), (16, .c (.v (.int .i64 xs.length))), (17, .c (.v (.int .i64 i.1)))]) (fun _ => []) 0 (fun i => xs.length - i.1) ⟨0, Nat.zero_le _, rfl⟩ ?_ ?_
   · simp only [Weak, eq_self, q07, q01, sc_c, q03, q04, q05, q00, q02, ScL, q06, List.forall_mem_map, go_sem, Int.reduceBEq, Int.reduceLE, Int.reduceLT, Int.reduceNeg, Nat.reduceAdd, Nat.reduceEqDiff, Nat.reduceLT, Nat.reduceLeDiff, Nat.reduceMul, Nat.reduceSub, reduceCtorEq, ↓reduceIte]
     all_goals rfl
   rintro ⟨i, hi, ht⟩
   refine q0a ?_
   refine VC.cond (by rfl) (by trivial) (fun hc => ?_) (fun hc => ?_)
   · simp only [decide_eq_true_eq] at hc
     obtain ⟨x, hx⟩ : ∃ x, xs[i]? = some x := ⟨xs[i], List.getElem?_eq_getElem (by omega)⟩
     obtain ⟨y, hy⟩ : ∃ y, ys[i]? = some y := ⟨ys[i], List.getElem?_eq_getElem (by omega)⟩
     have hw : IntKind.i64.wrap ((i : Int) + 1) = (i : Int) + 1 := q1i (by omega) (by omega)
     have hcl := hcall x (List.mem_of_getElem? hx) y
     (repeat (first | refine pass ?_ | refine VC.region (by rfl) (by rfl) ?_ | (refine AO.step fun K hK => ?_; simp only [List.getElem?_map, hx, hy, FT.av, q6d, q9h, q9i, go_sem, Int.reduceBEq, Int.reduceLE, Int.reduceLT, Int.reduceNeg, Nat.reduceAdd, Nat.reduceEqDiff, Nat.reduceLT, Nat.reduceLeDiff, Nat.reduceMul, Nat.reduceSub, reduceCtorEq, ↓reduceIte]; (first | refine q10 ?_ | refine q0q ?_ | skip); (first | refine hK _ _ _ ?_ | refine ⟨by first | omega | exact ⟨_, rfl, rfl⟩ | exact fun _ => ⟨_, rfl, rfl⟩ | (intro h; simp only [List.getElem?_map, hx, hy, FT.av, q6d, q9h, q9i, h, true_and]; omega) | (clear hK; intro h; simp_all <;> omega), hK _ _ _ ?_⟩); clear hK K) | refine VC.draw mixP (by rfl) (by rfl) ?_ | refine ⟨q13 (by kernel_rfl), ?_⟩ | refine BQ.other (by decide) ?_ | refine VC.seq ?_ | refine AO.nil ?_ | refine VC.block ?_))
     (refine AO.step fun K hK => ?_; simp only [go_sem, Int.reduceBEq, Int.reduceLE, Int.reduceLT, Int.reduceNeg, Nat.reduceAdd, Nat.reduceEqDiff, Nat.reduceLT, Nat.reduceLeDiff, Nat.reduceMul, Nat.reduceSub, reduceCtorEq, ↓reduceIte, FT.av, q6d, q9h, q9i, q2a]; (first | refine q0q ?_ | skip))
     refine ⟨_, hcl, hK _ _ _ ?_⟩
     clear hK K
     refine q0a ?_
     refine VC.cond (by rfl) (by trivial) (fun hc2 => ?_) (fun hc2 => ?_)
     · have hne : ceq xs ys = false := by
        rw [q6x]
        intro e
        subst e
        rw [hx] at hy
        obtain rfl := Option.some.inj hy
        rw [q8b] at hc2
        simp at hc2
       refine q0a ?_
       refine ⟨.inr rfl, ?_⟩
       rw [Tryz.results47, hne]
       simp only [q0n, resV, go_sem, simprocAttr]
       exact .c _
     · have hxy : x = y := by
        rw [← q4a]
        simpa using hc2
       refine q0b (hw) ?_
       refine .next ⟨i + 1, by omega, ?_⟩ ?_ (by simp only []; omega)
       · rw [List.take_add_one, List.take_add_one, hx, hy, ht, hxy]
       refine q4k ?_
       exact cI (by omega)
   · simp only [decide_eq_false_iff_not] at hc
     obtain rfl : i = xs.length := by omega
     have heq : ceq xs ys = true := by
      rw [List.take_length, hlen, List.take_length] at ht
      rw [q4a, ht]
     refine q0a ?_
     refine ⟨.inr rfl, ?_⟩
     rw [Tryz.results47, heq]
     simp only [q0n, resV, go_sem, simprocAttr]
     exact .c _

theorem eqfN_told {g : FuncId} {fs cs : List AV} (hp : AV.pureL fs = true) (hp' : AV.pureL cs = true) (xs ys : List NT) (hcall : ∀ x ∈ xs, ∀ y, Told Tryz.prog g (fs ++ ([x.av, y.av] ++ cs)) (.c (.v (.bool (ceq x y))))) :
  Told Tryz.prog 45 [.c (.sl 10 (xs.map NT.cells)), .c (.sl 10 (ys.map NT.cells)), .fn (.func g) fs cs] (.c (.v (.bool (ceq xs ys)))) := by
 refine VC.told ent_45 Tryz.func45 rfl Tryz.ntmps45 (by simp) (by simp [AV.pureB, AV.pureL, hp, hp']) rfl fun hb => ?_
 simp only [q3m, q3w, List.mem_cons, List.not_mem_nil, or_false, forall_eq_or_imp, forall_eq, List.length_map] at hb
 have h1 := hb.1.1
 have h2 := hb.2.1.1
 clear hb
 refine q0a ?_
 refine VC.cond (by rfl) (by trivial) (fun hc => ?_) (fun hc => ?_)
 · have hne : ceq xs ys = false := by
    rw [q6x]
    intro e
    subst e
    simp at hc
   refine q0a ?_
   refine ⟨.inr rfl, ?_⟩
   rw [Tryz.results45, hne]
   simp only [q0n, resV, go_sem, simprocAttr]
   exact .c _
 · have hlen : xs.length = ys.length := by
    simp at hc
    omega
   refine q0a ?_
   refine VC.loop (ι := {i : Nat // i ≤ xs.length ∧ xs.take i = ys.take i}) (fun i => [(1, .c (.sl 10 (ys.map NT.cells))), (2, .fn (.func g) fs cs), (15, .c (.sl 10 (xs.map NT.cells))), (16, .c (.v (.int .i64 xs.length))), (17, .c (.v (.int .i64 i.1)))]) (fun _ => []) 0 (fun i => xs.length - i.1) ⟨0, Nat.zero_le _, rfl⟩ ?_ ?_
   · simp only [q2o hp, q2o hp', Weak, eq_self, q07, q01, sc_c, q03, q04, q05, q00, q02, ScL, q06, List.forall_mem_map, go_sem, Int.reduceBEq, Int.reduceLE, Int.reduceLT, Int.reduceNeg, Nat.reduceAdd, Nat.reduceEqDiff, Nat.reduceLT, Nat.reduceLeDiff, Nat.reduceMul, Nat.reduceSub, reduceCtorEq, ↓reduceIte]
     all_goals rfl
   rintro ⟨i, hi, ht⟩
   refine q0a ?_
   refine VC.cond (by rfl) (by trivial) (fun hc => ?_) (fun hc => ?_)
   · simp only [decide_eq_true_eq] at hc
     obtain ⟨x, hx⟩ : ∃ x, xs[i]? = some x := ⟨xs[i], List.getElem?_eq_getElem (by omega)⟩
     obtain ⟨y, hy⟩ : ∃ y, ys[i]? = some y := ⟨ys[i], List.getElem?_eq_getElem (by omega)⟩
     have hw : IntKind.i64.wrap ((i : Int) + 1) = (i : Int) + 1 := q1i (by omega) (by omega)
     have hcl := hcall x (List.mem_of_getElem? hx) y
     (repeat (first | refine pass ?_ | refine VC.region (by rfl) (by rfl) ?_ | (refine AO.step fun K hK => ?_; simp only [List.getElem?_map, hx, hy, NT.av, q69, q7t, q7u, go_sem, Int.reduceBEq, Int.reduceLE, Int.reduceLT, Int.reduceNeg, Nat.reduceAdd, Nat.reduceEqDiff, Nat.reduceLT, Nat.reduceLeDiff, Nat.reduceMul, Nat.reduceSub, reduceCtorEq, ↓reduceIte]; (first | refine q10 ?_ | refine q0q ?_ | skip); (first | refine hK _ _ _ ?_ | refine ⟨by first | omega | exact ⟨_, rfl, rfl⟩ | exact fun _ => ⟨_, rfl, rfl⟩ | (intro h; simp only [List.getElem?_map, hx, hy, NT.av, q69, q7t, q7u, h, true_and]; omega) | (clear hK; intro h; simp_all <;> omega), hK _ _ _ ?_⟩); clear hK K) | refine VC.draw mixP (by rfl) (by rfl) ?_ | refine ⟨q13 (by kernel_rfl), ?_⟩ | refine BQ.other (by decide) ?_ | refine VC.seq ?_ | refine AO.nil ?_ | refine VC.block ?_))
     (refine AO.step fun K hK => ?_; simp only [go_sem, Int.reduceBEq, Int.reduceLE, Int.reduceLT, Int.reduceNeg, Nat.reduceAdd, Nat.reduceEqDiff, Nat.reduceLT, Nat.reduceLeDiff, Nat.reduceMul, Nat.reduceSub, reduceCtorEq, ↓reduceIte, NT.av, q69, q7t, q7u, hp, hp', q7g, q2a, List.append_assoc]; (first | refine q0q ?_ | skip))
     refine .inl ⟨_, hcl, hK _ _ _ ?_⟩
     clear hK K
     refine q0a ?_
     refine VC.cond (by rfl) (by trivial) (fun hc2 => ?_) (fun hc2 => ?_)
     · have hne : ceq xs ys = false := by
        rw [q6x]
        intro e
        subst e
        rw [hx] at hy
        obtain rfl := Option.some.inj hy
        rw [q8b] at hc2
        simp at hc2
       refine q0a ?_
       refine ⟨.inr rfl, ?_⟩
       rw [Tryz.results45, hne]
       simp only [q0n, resV, go_sem, simprocAttr]
       exact .c _
     · have hxy : x = y := by
        rw [← q4a]
        simpa using hc2
       refine q0b (hw) ?_
       refine .next ⟨i + 1, by omega, ?_⟩ ?_ (by simp only []; omega)
       · rw [List.take_add_one, List.take_add_one, hx, hy, ht, hxy]
       simp only [q2o hp, q2o hp', Weak, eq_self, q07, q01, sc_c, q03, q04, q05, q00, q02, ScL, q06, List.forall_mem_map, go_sem, Int.reduceBEq, Int.reduceLE, Int.reduceLT, Int.reduceNeg, Nat.reduceAdd, Nat.reduceEqDiff, Nat.reduceLT, Nat.reduceLeDiff, Nat.reduceMul, Nat.reduceSub, reduceCtorEq, ↓reduceIte]
       exact cI (by omega)
   · simp only [decide_eq_false_iff_not] at hc
     obtain rfl : i = xs.length := by omega
     have heq : ceq xs ys = true := by
      rw [List.take_length, hlen, List.take_length] at ht
      rw [q4a, ht]
     refine q0a ?_
     refine ⟨.inr rfl, ?_⟩
     rw [Tryz.results45, heq]
     simp only [q0n, resV, go_sem, simprocAttr]
     exact .c _

theorem ceq_field (a b : FT) : ceq a b = ((((a.name == b.name) && (a.aliases == b.aliases)) && (a.type == b.type)) && (a.has == b.has) && jeq a.dflt b.dflt) := by
 rw [Bool.eq_iff_iff]
 simp only [q4a, Bool.and_eq_true, beq_iff_eq, q66]
 constructor
 · rintro rfl
   exact ⟨⟨⟨⟨rfl, rfl⟩, rfl⟩, rfl⟩, rfl⟩
 · rintro ⟨⟨⟨⟨h1, h2⟩, h3⟩, h4⟩, h5⟩
   cases a
   cases b
   simp_all
theorem ceq_node (a b : NT) : ceq a b = ((((((((((a.kind == b.kind) && (a.name == b.name)) && (a.aliases == b.aliases)) && ceq a.fields b.fields) && (a.symbols == b.symbols)) && (a.has == b.has)) && (a.dflt == b.dflt)) && (a.size == b.size)) && (a.items == b.items)) && (a.branches == b.branches)) := by
 rw [Bool.eq_iff_iff]
 simp only [q4a, Bool.and_eq_true, beq_iff_eq]
 constructor
 · rintro rfl
   simp
 · rintro ⟨⟨⟨⟨⟨⟨⟨⟨⟨h1, h2⟩, h3⟩, h4⟩, h5⟩, h6⟩, h7⟩, h8⟩, h9⟩, h10⟩
   cases a
   cases b
   simp_all
theorem j47 (a b : ST) : ceq a b = ((a.root == b.root) && ceq a.nodes b.nodes) := by
 rw [Bool.eq_iff_iff]
 simp only [q4a, Bool.and_eq_true, beq_iff_eq]
 constructor
 · rintro rfl
   simp
 · rintro ⟨h1, h2⟩
   cases a
   cases b
   simp_all
theorem j56 (a b : FT) : Told Tryz.prog 42 [a.av, b.av] (.c (.v (.bool (ceq a b)))) := by
 have hA := q7s a.aliases b.aliases
 have hJ := same_told _ a.dflt b.dflt (Nat.le_refl _)
 simp only [JT.av_eq] at hJ
 have hV := ceq_field a b
 obtain ⟨V, hVV⟩ : ∃ V, V = ceq a b := ⟨_, rfl⟩
 rw [← hVV] at hV ⊢
 clear hVV
 generalize (a.aliases == b.aliases) = b1 at hA hV
 generalize jeq a.dflt b.dflt = b2 at hJ hV
 replace hV := Lib.hid hV
 rw [FT.av_eq, FT.av_eq, q58, q58]
 refine VC.toldP ent_42 Tryz.func42 rfl Tryz.ntmps42 fun hb => ?_
 clear hb
 refine q0b (And.intro @q12 (And.intro @q2r (And.intro @q2h @q1u))) ?_
 refine q48 (hA) ?_
 refine q0b (And.intro @q12 (And.intro @q2r @q2h)) ?_
 refine q6m (@q2a) (hJ) ?_
 refine q0a ?_
 refine retX Tryz.results42 ?_
 rw [hV.out]
 exact .c _
theorem tyFnF : tyA Tryz.prog 75 = some ⟨false, 1, 8, [.nilFunc], 0, [], 0, []⟩ := by kernel_rfl
theorem j57 (a b : NT) : Told Tryz.prog 46 [a.av, b.av, .pp [fnP 42]] (.c (.v (.bool (ceq a b)))) := by
 have hA := q7s a.aliases b.aliases
 have hF := j5e (g := 42) a.fields b.fields fun x _ y => j56 x y
 have hS := q7s a.symbols b.symbols
 have hB := j5k a.branches b.branches
 have hV := ceq_node a b
 obtain ⟨V, hVV⟩ : ∃ V, V = ceq a b := ⟨_, rfl⟩
 rw [← hVV] at hV ⊢
 clear hVV
 generalize (a.aliases == b.aliases) = b1 at hA hV
 generalize ceq a.fields b.fields = b2 at hF hV
 generalize (a.symbols == b.symbols) = b3 at hS hV
 generalize (a.branches == b.branches) = b4 at hB hV
 replace hV := Lib.hid hV
 rw [NT.av_eq, NT.av_eq, q41, q41]
 unfold fnP
 refine VC.toldP ent_46 Tryz.func46 rfl Tryz.ntmps46 fun hb => ?_
 clear hb
 refine q0b (@q1u) ?_
 refine q48 (hA) ?_
 refine q0b (@tyFnF) ?_
 refine q6m (@tyFnF) (hF) ?_
 refine q0a ?_
 refine q48 (hS) ?_
 refine q0b (@q1u) ?_
 refine q48 (hB) ?_
 refine q0a ?_
 refine retX Tryz.results46 ?_
 rw [hV.out]
 exact .c _
theorem j54 (a b : ST) : Told Tryz.prog 16 [a.av, b.av] (.c (.v (.bool (ceq a b)))) := by
 have hN := eqfN_told (g := 46) (fs := []) (cs := [.pp [fnP 42]]) rfl rfl a.nodes b.nodes fun x _ y => j57 x y
 have hV := j47 a b
 obtain ⟨V, hVV⟩ : ∃ V, V = ceq a b := ⟨_, rfl⟩
 rw [← hVV] at hV ⊢
 clear hVV
 generalize ceq a.nodes b.nodes = b1 at hN hV
 replace hV := Lib.hid hV
 rw [ST.av_eq, ST.av_eq, q44, q44]
 refine VC.toldP ent_16 Tryz.func16 rfl Tryz.ntmps16 fun hb => ?_
 clear hb
 (refine VC.seq ?_; (first | refine VC.region (by rfl) (by rfl) ?_ | refine VC.draw mixP (by rfl) (by rfl) ?_); (repeat (refine AO.step fun K hK => ?_; simp only [go_sem, Int.reduceBEq, Int.reduceLE, Int.reduceLT, Int.reduceNeg, Nat.reduceAdd, Nat.reduceEqDiff, Nat.reduceLT, Nat.reduceLeDiff, Nat.reduceMul, Nat.reduceSub, reduceCtorEq, ↓reduceIte]; (first | refine q10 ?_ | refine q0q ?_ | skip); (first | refine hK _ _ _ ?_ | refine ⟨by first | omega | exact ⟨_, rfl, rfl⟩ | exact fun _ => ⟨_, rfl, rfl⟩ | (intro h; simp only [h, true_and]; omega) | (clear hK; intro h; simp_all <;> omega), hK _ _ _ ?_⟩); clear hK K)); refine AO.nil ?_; first | refine SQ.normal ?_ | refine ⟨q13 (by kernel_rfl), SQ.normal ?_⟩)
 (refine VC.seq ?_; (first | refine VC.region (by rfl) (by rfl) ?_ | refine VC.draw mixP (by rfl) (by rfl) ?_); (repeat (refine AO.step fun K hK => ?_; simp only [tyFnF, go_sem, Int.reduceBEq, Int.reduceLE, Int.reduceLT, Int.reduceNeg, Nat.reduceAdd, Nat.reduceEqDiff, Nat.reduceLT, Nat.reduceLeDiff, Nat.reduceMul, Nat.reduceSub, reduceCtorEq, ↓reduceIte]; (first | refine q10 ?_ | refine q0q ?_ | skip); (first | refine hK _ _ _ ?_ | refine ⟨by first | omega | exact ⟨_, rfl, rfl⟩ | exact fun _ => ⟨_, rfl, rfl⟩ | (intro h; simp only [tyFnF, h, true_and]; omega) | (clear hK; intro h; simp_all <;> omega), hK _ _ _ ?_⟩); clear hK K)); refine AO.nil ?_; first | refine SQ.normal ?_ | refine ⟨q13 (by kernel_rfl), SQ.normal ?_⟩)
 refine VC.frz [] [(2, .ref 0 1 0 0), (3, .ref 8 1 0 0), (5, .ref 24 1 0 0)] [(0, ⟨false, 30, 2, [[.c (.sl 10 (a.nodes.map NT.cells)), .c (.v (.int .i64 a.root))]]⟩), (8, ⟨false, 30, 2, [[.c (.sl 10 (b.nodes.map NT.cells)), .c (.v (.int .i64 b.root))]]⟩), (24, ⟨false, 75, 1, [[.c (fnP 42)]]⟩)] 400 ?_ ?_
 · simp only [WeakF, q07, q01, sc_c, q03, q04, q05, q00, q02, ScL, q06, List.forall_mem_map, go_sem, Int.reduceBEq, Int.reduceLE, Int.reduceLT, Int.reduceNeg, Nat.reduceAdd, Nat.reduceEqDiff, Nat.reduceLT, Nat.reduceLeDiff, Nat.reduceMul, Nat.reduceSub, reduceCtorEq, ↓reduceIte]
   exact ⟨⟨.same _, .same _, .same _⟩, .same _, .same _, .one (.cons .fnV .nil) (by simp [AV.cellish])⟩
 refine q0a ?_
 (refine AO.step fun K hK => ?_; simp only [go_sem, Int.reduceBEq, Int.reduceLE, Int.reduceLT, Int.reduceNeg, Nat.reduceAdd, Nat.reduceEqDiff, Nat.reduceLT, Nat.reduceLeDiff, Nat.reduceMul, Nat.reduceSub, reduceCtorEq, ↓reduceIte]; (first | refine q0q ?_ | skip))
 refine .inr (.inl ⟨.c (.v (.bool b1)), [.c (.sl 10 (a.nodes.map NT.cells)), .c (.sl 10 (b.nodes.map NT.cells)), .fn (.func 46) [] [.pp [fnP 42]]], [24], fun hg => ⟨by simpa using hg, by rfl, rfl, fun k x z h5 h6 => ?_, rfl, hN⟩, hK _ _ _ ?_⟩)
 · match k with
   | 0 => obtain rfl := Option.some.inj h5; obtain rfl := Option.some.inj h6; exact .same _
   | 1 => obtain rfl := Option.some.inj h5; obtain rfl := Option.some.inj h6; exact .same _
   | 2 =>
     obtain rfl := Option.some.inj h5
     obtain rfl := Option.some.inj h6
     refine .fn rfl (by simp) rfl fun k x z h7 h8 => ?_
     match k with
     | 0 => obtain rfl := Option.some.inj h7; obtain rfl := Option.some.inj h8; exact View.ref (es := [fnP 42]) rfl rfl rfl rfl
     | k + 1 => simp at h7
   | k + 3 => simp at h5
 clear hK K
 refine q0a ?_
 refine retX Tryz.results16 ?_
 rw [hV.out]
 exact .c _

theorem j5s (n : NT) (hf : n.fields = []) (ho : q3u ⟨[n], 0⟩ = true) (hs : n.sm 1000000) : ∀ i, i < ([n] : List NT).length → (0 : Int) = 0 → Told Tryz.prog 37 [(ST.mk [n] 0).av, .c (.v (.int .i64 (i : Int)))] (.c (.v (.int .i64 (wOf [n] i)))) := by
 intro i hi _
 exact j55 ⟨[n], 0⟩ ⟨by simp, fun x hx => by obtain rfl := List.mem_singleton.1 hx; exact hs⟩ ho i hi
theorem one_built (n : NT) (hf : n.fields = []) : bldM true ([n], 0, 0) (wOf [n]) = (⟨[n], 0⟩, 0) := by
 have h := heavy_no (heavy_one hf) 0 (by simp)
 have hw : wtE 0 (wOf [n]) 1 = 0 := by
  rw [j4p, j4q]
  have : decide (1000 < wOf [n] 0) = false := by simpa using h
  rw [this]
  rfl
 unfold bldM
 simp only [List.length_singleton]
 rw [if_neg (by simp), if_neg (by rw [hw]; simp)]

def q46 (z : Int) : JT := .mk 3 z [] [] []
def q2n (name : List UInt8) (z : Int) : NT := ⟨14, name, [], [], [], false, [], z, 0, []⟩
theorem j29 (name : List UInt8) (z : Int) (h : q2c name = true) (hs : q1c name ≠ []) : jR (nobjA name z) = true ∧ jR (nobjB name z) = true := by
 obtain ⟨j, hj0, hj, h2, h3, h4⟩ := q60 hs
 have hr := j5i h
 have hasc := fun c hc => j3c (by rw [q8n, Bool.and_eq_true] at h; exact h.2) c hc
 have hrl : q1m (q2e name) = true := q72 fun c hc => by rw [q68 h2] at hc; exact hasc c (List.mem_of_mem_drop hc)
 have hrs : q1m (q1c name) = true := q72 fun c hc => by rw [q6j h2] at hc; exact hasc c (List.mem_of_mem_take hc)
 have hrf : q1m q2m = true := by decide +kernel
 have hz : jR (.mk 3 z [] [] []) = true ∧ q1n (.mk 3 z [] [] []) = 0 := by
  have e : q1n (.mk 3 z [] [] []) = 0 := by simp [q1n]
  refine ⟨?_, e⟩
  rw [q5p, e, q3a, q3b]
  simp [q43, q9a]
 have ht : ∀ w, q1m w = true → jR (q1b w) = true ∧ q1n (q1b w) = 0 := fun w hw => ⟨by rw [text_jR, hw], by simp [q1b, q1n]⟩
 have hkey : q1m q0y = true ∧ q1m q1g = true ∧ q1m q0u = true ∧ q1m q1d = true := ⟨by decide +kernel, by decide +kernel, by decide +kernel, by decide +kernel⟩
 constructor
 · refine obj_jR _ ?_ (show [q0y, q1g, q1d].Nodup by decide) ?_
   · simp [hkey.1, hkey.2.1, hkey.2.2.2]
   · intro p hp
     simp only [List.mem_cons, List.not_mem_nil, or_false] at hp
     rcases hp with rfl | rfl | rfl
     · exact ht _ hrf
     · exact ht _ hr
     · exact hz
 · refine obj_jR _ ?_ (show [q0y, q1g, q0u, q1d].Nodup by decide) ?_
   · simp [hkey.1, hkey.2.1, hkey.2.2.1, hkey.2.2.2]
   · intro p hp
     simp only [List.mem_cons, List.not_mem_nil, or_false] at hp
     rcases hp with rfl | rfl | rfl | rfl
     · exact ht _ hrf
     · exact ht _ hrl
     · exact ht _ hrs
     · exact hz
theorem j5r (name : List UInt8) (z : Int) : q3u ⟨[q2n name z], 0⟩ = true := by kernel_rfl
theorem j27 (j : JT) (name : List UInt8) (z : Int) (hsm : j.sm 4294967296) (hr : jR j = true) (h0 : 0 ≤ z) (h1 : z ≤ 1000) (hl : name.length ≤ 1000) (e1 : jget j q1p = none) (e2 : gt j q1d = q46 z) (hkd : j.kd = 6) (hty : gt j q0y = q1b q2m) (nm sp : List UInt8)
  (hnm : gt j q1g = q1b nm) (hsp : (jget j q0u = none ∧ sp = []) ∨ (jget j q0u = some (q1b sp))) (hj : q11 sp nm = some name) (hk0 : q0x name = 0) (hn1 : nm.length ≤ 1000) (hn2 : sp.length ≤ 1000) :
  Told Tryz.prog 13 [j.av] (.tup [(ST.mk [q2n name z] 0).av, .c (.v (.int .i64 0))]) := by
 have hR := j2n j hsm
 rw [hr] at hR
 have hkf : q0x q2m = 14 := by decide
 have htx : (gt j q0y).txt = q2m := by rw [hty]; rfl
 have hgs : (gt j q0u).txt.length ≤ 100000000 := by
  rcases hsp with ⟨h2, _⟩ | h2
  · unfold gt; rw [h2]; simp [zJ, JT.txt]
  · unfold gt; rw [h2]; show sp.length ≤ _; omega
 have hfull : q1k j [] = some name := by
  unfold q1k
  rw [hnm, show (q1b nm).txt = nm from rfl]
  rcases hsp with ⟨h2, rfl⟩ | h2
  · rw [h2, if_neg (by simp)]; exact hj
  · rw [show (gt j q0u).txt = sp by unfold gt; rw [h2]; rfl, h2, if_pos (by simp)]; exact hj
 have hg : gt j q1p = zJ := by unfold gt; rw [e1]; rfl
 have hhead : q4u j 14 [] = q2n name 0 := by
  unfold q4u q53
  rw [hfull, e1, if_neg (by simp)]
  rfl
 have hE : headE [] j [] = 0 := by
  unfold headE q52
  rw [e1, if_neg (by simp)]
  unfold q5n q3p
  rw [hfull, hnm, show ((q1b nm).kd != 4) = false from rfl]
  have : q3p j = 0 := by
   unfold q3p
   rw [hnm, show ((q1b nm).kd != 4) = false from rfl]
   rcases hsp with ⟨h2, _⟩ | h2
   · rw [h2, if_neg (by simp)]; rfl
   · rw [h2, if_pos (by simp), show gt j q0u = q1b sp by unfold gt; rw [h2]; rfl]; rfl
  unfold q3p at this
  rw [hnm, show ((q1b nm).kd != 4) = false from rfl] at this
  rw [this]
  simp only [Option.isSome_some, Bool.not_true, Option.getD_some, hk0]
  rfl
 have hH := j43 [] (by simp) j (q0x (gt j q0y).txt) [] (by simp) (by rw [hnm]; show nm.length ≤ _; omega) hgs (by rw [hg]; simp [zJ, JT.its]) (by rw [hg]; simp [zJ, JT.its]) (by rw [hfull]; simp; omega)
 rw [show headE (hsE []) j [] = 0 from hE] at hH
 have hF := j40 [] (by simp) 0 j (q4u j 14 [])
 have hV : q4q [] 0 j (q4u j 14 []) = ([q2n name z], 0, 0) := by
  unfold q4q q59
  rw [e2, hhead, show ((q46 z).kd != 3) = false from rfl, show (q46 z).num = z from rfl, show decide (z < 0) = false by simp; omega, show decide (1000 < z) = false by simp; omega]
  rfl
 have hne : ∀ {P : Prop} {n : Nat}, n ≠ 14 → q0x (gt j q0y).txt = n → P := fun h1 h2 => absurd (h2.symm.trans (by rw [htx, hkf])) h1
 have hN := j45 [] (by simp) j [] (by rw [hty]; rfl) ([q2n name z], 0, 0) 0 (fun k => q4u j k []) hH (hne (by decide)) (hne (by decide)) (hne (by decide)) (hne (by decide))
  (fun _ => by
   have := hF
   rw [show hsE [] = [] from rfl, hV] at this
   exact this)
  (fun _ _ _ _ h5 => absurd (by rw [htx, hkf]) h5)
 have := j4z j true hR ([q2n name z], 0, 0) (by simp) (bnode_obj [] j hkd [] _ hN) (wOf [q2n name z]) (j5s (q2n name z) rfl (j5r name z) (by simp [q2n, NT.sm]; omega))
 rw [one_built (q2n name z) rfl] at this
 exact this
theorem q7v (s : List UInt8) : Told Tryz.prog 19 [.c (.v (.string (str s)))] (.agg ([PV.v (.int .i64 4), .v (.int .i64 0), .v (.string (str s)), .sl 5 [], .sl 1 []].map .c)) := by
 refine VC.toldP ent_19 Tryz.func19 rfl Tryz.ntmps19 fun hb => ?_
 clear hb
 refine q0a ?_
 refine retX Tryz.results19 ?_
 exact .aggL (.cons (.c _) (.cons (.c _) (.cons (.c _) (.cons (.nil 5) (.cons (.nil 1) .nil)))))
theorem j3a {j : JT} {y : AV} (K C C' : List (List PV)) (hj : j.av = .agg ([PV.v (.int .i64 6), .v (.int .i64 0), .v (.string ⟨#[]⟩), .sl 5 C', .sl 1 K].map .c)) (hc : PCoE C C') (hy : y.pureB = true) (h : Told Tryz.prog 13 [j.av] y) :
  ToldM Tryz.prog 13 [.agg [.c (.v (.int .i64 6)), .c (.v (.int .i64 0)), .c (.v (.string ⟨#[]⟩)), .row 1000001 C.length, .row 1000000 K.length]]
   [⟨true, 9, 1, K.map fun e => e.map .c⟩, ⟨true, 25, 5, C.map fun e => e.map .c⟩] [none, none] y := by
 rw [hj] at h
 have h2 := h.pco (.cons (.same _) (.cons (.same _) (.cons (.same _) (.cons (.rows hc) (.cons (.same _) .nil)))))
 refine ToldM.gone (args := [.agg [.c (.v (.int .i64 6)), .c (.v (.int .i64 0)), .c (.v (.string ⟨#[]⟩)), .row 1000001 C.length, .row 1000000 K.length]]) (L := [⟨true, 9, 1, K.map fun e => e.map .c⟩, ⟨true, 25, 5, C.map fun e => e.map .c⟩]) h2 rfl hy ?_ rfl fun k x z h1 h3 => ?_
 · intro B hB e he x hx
   simp only [List.mem_cons, List.not_mem_nil, or_false] at hB
   rcases hB with rfl | rfl <;> (obtain ⟨e', _, rfl⟩ := List.mem_map.1 he; obtain ⟨p, _, rfl⟩ := List.mem_map.1 hx; exact ⟨p, rfl⟩)
 · cases k with
   | succ k => simp at h1
   | zero =>
     obtain rfl := Option.some.inj h1
     obtain rfl := Option.some.inj h3
     refine View.agg rfl fun k x z h1 h3 => ?_
     match k with
     | 0 => obtain rfl := Option.some.inj h1; obtain rfl := Option.some.inj h3; exact .same _
     | 1 => obtain rfl := Option.some.inj h1; obtain rfl := Option.some.inj h3; exact .same _
     | 2 => obtain rfl := Option.some.inj h1; obtain rfl := Option.some.inj h3; exact .same _
     | 3 =>
       obtain rfl := Option.some.inj h1
       obtain rfl := Option.some.inj h3
       exact View.row (B := ⟨true, 25, 5, C.map fun e => e.map .c⟩) rfl rfl (by simp [Blkd.len]) rfl
     | 4 =>
       obtain rfl := Option.some.inj h1
       obtain rfl := Option.some.inj h3
       exact View.row (B := ⟨true, 9, 1, K.map fun e => e.map .c⟩) rfl rfl (by simp [Blkd.len]) rfl
     | k + 5 => simp at h1
theorem name_av (name : List UInt8) (z : Int) : (ST.mk [q2n name z] 0).av = .agg ([PV.sl 10 [[.v (.int .i64 14), .v (.string (str name)), .sl 1 [], .sl 9 [], .sl 1 [], .v (.bool false), .v (.string (str [])), .v (.int .i64 z), .v (.int .i64 0), .sl 1 []]], .v (.int .i64 0)].map .c) := rfl
def txC (s : List UInt8) : List PV := [.v (.int .i64 4), .v (.int .i64 0), .v (.string (str s)), .sl 5 [], .sl 1 []]
def szC (z : Int) : List PV := [.v (.int .i64 3), .v (.int .i64 z), .v (.string ⟨#[]⟩), .sl 5 [], .sl 1 []]
def szD (z : Int) : List PV := [.v (.int .i64 3), .v (.int .i64 z), .v (.string ⟨#[]⟩), .v (.slice none 0 0), .v (.slice none 0 0)]
theorem sz_pco (z : Int) : PCoL (szD z) (szC z) := .cons (.same _) (.cons (.same _) (.cons (.same _) (.cons (.nil 5) (.cons (.nil 1) .nil))))
theorem q5s : ∀ l : List PV, PCoL l l
 | [] => .nil
 | x :: l => .cons (.same x) (q5s l)
theorem q6l (s : List UInt8) : (q1b s).cells = txC s := by rw [q19]; rfl
theorem j4c (z : Int) : (q46 z).cells = szC z := by rw [q19]; rfl
theorem nA_av (name : List UInt8) (z : Int) : (nobjA name z).av = .agg ([PV.v (.int .i64 6), .v (.int .i64 0), .v (.string ⟨#[]⟩), .sl 5 [txC q2m, txC name, szC z], .sl 1 [[.v (.string (str q0y))], [.v (.string (str q1g))], [.v (.string (str q1d))]]].map .c) := by
 rw [JT.av_eq, q19]
 show AV.agg (List.map AV.c [_, _, _, .sl 5 [(q1b q2m).cells, (q1b name).cells, (q46 z).cells], _]) = _
 rw [q6l, q6l, j4c]
 rfl
theorem nB_av (name : List UInt8) (z : Int) : (nobjB name z).av = .agg ([PV.v (.int .i64 6), .v (.int .i64 0), .v (.string ⟨#[]⟩), .sl 5 [txC q2m, txC (q2e name), txC (q1c name), szC z], .sl 1 [[.v (.string (str q0y))], [.v (.string (str q1g))], [.v (.string (str q0u))], [.v (.string (str q1d))]]].map .c) := by
 rw [JT.av_eq, q19]
 show AV.agg (List.map AV.c [_, _, _, .sl 5 [(q1b q2m).cells, (q1b (q2e name)).cells, (q1b (q1c name)).cells, (q46 z).cells], _]) = _
 rw [q6l, q6l, q6l, j4c]
 rfl
theorem name_sm (l : List (List UInt8 × JT)) (hk : ∀ p ∈ l, p.1.length ≤ 4294967296) (hx : ∀ p ∈ l, p.2.sm 4294967296) (hl : l.length ≤ 100) : (objJ l).sm 4294967296 := by
 have : ∀ l : List (List UInt8 × JT), (∀ p ∈ l, p.2.sm 4294967296) → JT.smL 4294967296 (l.map Prod.snd) := by
  intro l
  induction l with
  | nil => intro _; trivial
  | cons p l ih => intro h; exact ⟨h p (by simp), ih fun q hq => h q (by simp [hq])⟩
 refine ⟨by simp, by simp; omega, fun y hy => ?_, by simp; omega, this l hx⟩
 obtain ⟨p, hp, rfl⟩ := List.mem_map.1 hy
 exact hk p hp
theorem q6k {s : List UInt8} (h : s.length ≤ 4294967296) : (q1b s).sm 4294967296 := ⟨h, by simp, by simp, by simp, trivial⟩
theorem size_sm (z : Int) : (q46 z).sm 4294967296 := ⟨by simp, by simp, by simp, by simp, trivial⟩
theorem nameA_ans (name : List UInt8) (z : Int) (h : q2c name = true) (hs : q1c name ≠ []) (h0 : 0 ≤ z) (h1 : z ≤ 1000) (hl : name.length ≤ 1000) : Told Tryz.prog 13 [(nobjA name z).av] (.tup [(ST.mk [q2n name z] 0).av, .c (.v (.int .i64 0))]) := by
 obtain ⟨j, hj0, hj, h2, h3, h4⟩ := q60 hs
 refine j27 (nobjA name z) name z ?_ (j29 name z h hs).1 h0 h1 hl rfl rfl rfl rfl name [] rfl (.inl ⟨rfl, rfl⟩) (j2q h hs []).1 (j2t (by rw [h3]; simp)) hl (by simp)
 refine name_sm _ (fun p hp => ?_) (fun p hp => ?_) (by simp)
 all_goals
  simp only [List.mem_cons, List.not_mem_nil, or_false] at hp
  rcases hp with rfl | rfl | rfl
 · simp [q0y]
 · simp [q1g]
 · simp [q1d]
 · exact q6k (by simp [q2m])
 · exact q6k (by omega)
 · exact size_sm z
theorem nameB_ans (name : List UInt8) (z : Int) (h : q2c name = true) (hs : q1c name ≠ []) (h0 : 0 ≤ z) (h1 : z ≤ 1000) (hl : name.length ≤ 1000) : Told Tryz.prog 13 [(nobjB name z).av] (.tup [(ST.mk [q2n name z] 0).av, .c (.v (.int .i64 0))]) := by
 obtain ⟨j, hj0, hj, h2, h3, h4⟩ := q60 hs
 have hll : (q2e name).length ≤ 1000 := by rw [q68 h2, List.length_drop]; omega
 have hls : (q1c name).length ≤ 1000 := by rw [q6j h2, List.length_take]; omega
 refine j27 (nobjB name z) name z ?_ (j29 name z h hs).2 h0 h1 hl rfl rfl rfl rfl (q2e name) (q1c name) rfl (.inr rfl) (j2q h hs []).2 (j2t (by rw [h3]; simp)) hll hls
 refine name_sm _ (fun p hp => ?_) (fun p hp => ?_) (by simp)
 all_goals
  simp only [List.mem_cons, List.not_mem_nil, or_false] at hp
  rcases hp with rfl | rfl | rfl | rfl
 · simp [q0y]
 · simp [q1g]
 · simp [q0u]
 · simp [q1d]
 · exact q6k (by simp [q2m])
 · exact q6k (by omega)
 · exact q6k (by omega)
 · exact size_sm z
theorem j44 (name : List UInt8) (z : Int) : Told Tryz.prog 5 [.c (.v (.string (str name))), .c (.v (.int .i64 z))] (.c (.v (.bool true))) := by
 have hW := j60
 by_cases q1 : 1000 < name.length
 · have g1 : decide ((name.length : Int) > 1000) = true := by simp; omega
   refine VC.toldP q5e Tryz.func5 rfl Tryz.ntmps5 fun hb => ?_
   clear hb
   refine q0a ?_
   refine q0k (hW) ?_
   refine q0w (And.intro @q1t g1) ?_
   refine retX Tryz.results5 ?_
   exact .c _
 have g1 : decide ((name.length : Int) > 1000) = false := by simp; omega
 have hF := q8o name (by omega)
 have hSp := j4b name (by omega)
 have hLa := last_told name (by omega)
 by_cases q2 : q2c name = true
 case neg =>
  rw [Bool.not_eq_true] at q2
  rw [q2] at hF
  refine VC.toldP q5e Tryz.func5 rfl Tryz.ntmps5 fun hb => ?_
  clear hb
  refine q0a ?_
  refine q0k (hW) ?_
  refine q0w (And.intro @q1t g1) ?_
  refine q0k (hF) ?_
  refine q2i ?_
  refine retX Tryz.results5 ?_
  exact .c _
 rw [q2] at hF
 by_cases q3 : q1c name = []
 · have g3 : ((str (q1c name)).toList == ByteArray.toList ⟨#[]⟩) = true := by
    rw [q3, q1u, show ByteArray.toList ⟨#[]⟩ = [] from q1u []]
    rfl
   refine VC.toldP q5e Tryz.func5 rfl Tryz.ntmps5 fun hb => ?_
   clear hb
   refine q0a ?_
   refine q0k (hW) ?_
   refine q0w (And.intro @q1t g1) ?_
   refine q0k (hF) ?_
   refine q0a ?_
   refine q0k (hSp) ?_
   refine q0w (g3) ?_
   refine retX Tryz.results5 ?_
   exact .c _
 have g3 : ((str (q1c name)).toList == ByteArray.toList ⟨#[]⟩) = false := by
  rw [q1u, show ByteArray.toList ⟨#[]⟩ = [] from q1u []]
  simpa using q3
 by_cases q4 : z < 0
 · have g4 : decide (z < 0) = true := by simpa using q4
   refine VC.toldP q5e Tryz.func5 rfl Tryz.ntmps5 fun hb => ?_
   clear hb
   refine q0a ?_
   refine q0k (hW) ?_
   refine q0w (And.intro @q1t g1) ?_
   refine q0k (hF) ?_
   refine q0a ?_
   refine q0k (hSp) ?_
   refine q0w (And.intro g3 g4) ?_
   refine retX Tryz.results5 ?_
   exact .c _
 have g4 : decide (z < 0) = false := by simpa using q4
 by_cases q5 : 1000 < z
 · have g5 : decide (z > 1000) = true := by simpa using q5
   refine VC.toldP q5e Tryz.func5 rfl Tryz.ntmps5 fun hb => ?_
   clear hb
   refine q0a ?_
   refine q0k (hW) ?_
   refine q0w (And.intro @q1t g1) ?_
   refine q0k (hF) ?_
   refine q0a ?_
   refine q0k (hSp) ?_
   refine q0w (And.intro g3 (And.intro g4 g5)) ?_
   refine retX Tryz.results5 ?_
   exact .c _
 have g5 : decide (z > 1000) = false := by simpa using q5
 have hA := nameA_ans name z q2 q3 (by omega) (by omega) (by omega)
 have hB := nameB_ans name z q2 q3 (by omega) (by omega) (by omega)
 have hy : AV.pureB (.tup [(ST.mk [q2n name z] 0).av, .c (.v (.int .i64 0))]) = true := by simp [AV.pureB, AV.pureL, ST.av_eq, q2a]
 have hA2 := j3a _ [txC q2m, txC name, szD z] _ (nA_av name z) (.cons (q5s _) (.cons (q5s _) (.cons (sz_pco z) .nil))) hy hA
 have hB2 := j3a _ [txC q2m, txC (q2e name), txC (q1c name), szD z] _ (nB_av name z) (.cons (q5s _) (.cons (q5s _) (.cons (q5s _) (.cons (sz_pco z) .nil)))) hy hB
 have hS := j54 (ST.mk [q2n name z] 0) (ST.mk [q2n name z] 0)
 rw [q8b] at hS
 rw [name_av] at hA2 hB2 hS
 unfold txC szD at hA2 hB2
 simp only [List.map_cons, List.map_nil, List.length_cons, List.length_nil] at hA2 hB2 hS
 have t1 := q7v q2m
 have t2 := q7v name
 have t3 := q7v (q2e name)
 have t4 := q7v (q1c name)
 simp only [List.map_cons, List.map_nil] at t1 t2 t3 t4
 rw [q2m, q2q [102, 105, 120, 101, 100]] at t1 hA2 hB2
 rw [q0y, q1g, q1d, q2q [116, 121, 112, 101], q2q [110, 97, 109, 101], q2q [115, 105, 122, 101]] at hA2
 rw [q0y, q1g, q0u, q1d, q2q [116, 121, 112, 101], q2q [110, 97, 109, 101], q2q [110, 97, 109, 101, 115, 112, 97, 99, 101], q2q [115, 105, 122, 101]] at hB2
 clear hA hB hy
 refine VC.toldP q5e Tryz.func5 rfl Tryz.ntmps5 fun hb => ?_
 clear hb
 refine q0a ?_
 refine q0k (hW) ?_
 refine q0w (And.intro @q1t g1) ?_
 refine q0k (hF) ?_
 refine q0a ?_
 refine q0k (hSp) ?_
 refine q0w (And.intro g3 (And.intro g4 g5)) ?_
 refine q0k (t1) ?_
 refine q0a ?_
 refine q0k (t2) ?_
 refine q0a ?_
 refine q0k (t1) ?_
 refine q0a ?_
 refine q0k (hLa) ?_
 refine q0a ?_
 refine q0k (t3) ?_
 refine q0a ?_
 refine q0k (hSp) ?_
 refine q0a ?_
 refine q0k (t4) ?_
 refine q0a ?_
 refine walkL [224, 264] (hA2) ?_
 refine q0a ?_
 refine walkL [296, 368] (hB2) ?_
 refine q2i ?_
 refine q0k (hS) ?_
 refine q0b (@q1u) ?_
 refine retX Tryz.results5 ?_
 exact .c _
section
open Go.RowKit Go.ChangeShapes Go.WideShapes Go.ChangeAt
inductive TyPV (P : Program) : TypeId → List PV → Prop
 | bool {t : TypeId} {b : Bool} (ht : P.underlying t = some .bool) : TyPV P t [.v (.bool b)]
 | int {t : TypeId} {k : IntKind} {n : Int} (ht : P.underlying t = some (.int k)) (hw : (Lit.int k n).wf = true) : TyPV P t [.v (.int k n)]
 | str {t : TypeId} {s : ByteArray} (ht : P.underlying t = some .string) (hs : s.size ≤ maxLen) : TyPV P t [.v (.string s)]
 | sl {t e : TypeId} {es : List (List PV)} (ht : P.underlying t = some (.slice e)) (hx : ∀ q ∈ es, TyPV P e q) : TyPV P t [.sl (P.cellsOf e) es]
 | struct {t : TypeId} {fs : Array Field} {ps : List PV} (ht : P.underlying t = some (.struct fs)) (hl : ps.length = P.cellsOf t)
   (hx : ∀ (i : Nat) (f : Field), fs[i]? = some f → TyPV P f.type ((ps.drop f.offset).take (P.cellsOf f.type))) : TyPV P t ps
def tiles (P : Program) : List Field → Nat → Nat → Bool
 | [], o, n => o == n
 | f :: fs, o, n => f.offset == o && tiles P fs (o + P.cellsOf f.type) n
def plainB (P : Program) (l : List TypeId) : Bool := l.all fun t => match P.underlying t with
 | some .bool => P.cellsOf t == 1 | some (.int _) => P.cellsOf t == 1 | some .string => P.cellsOf t == 1
 | some (.slice e) => l.contains e && decide (0 < P.cellsOf e) && (P.cellsOf t == 1)
 | some (.struct fs) => tiles P fs.toList 0 (P.cellsOf t) && fs.toList.all fun f => l.contains f.type
 | _ => false
theorem list_of {α : Type} {p : Nat → α → Prop} : ∀ (n : Nat), (∀ i, i < n → ∃ y, p i y) → ∃ l : List α, l.length = n ∧ ∀ (i : Nat) (y : α), l[i]? = some y → p i y
 | 0, _ => ⟨[], rfl, fun i y h => by simp at h⟩
 | n + 1, h => by
   obtain ⟨l, h1, h2⟩ := list_of n fun i hi => h i (by omega)
   obtain ⟨y, hy⟩ := h n (by omega)
   refine ⟨l ++ [y], by simp [h1], fun i z hz => ?_⟩
   by_cases hi : i < l.length
   · rw [List.getElem?_append_left hi] at hz
     exact h2 i z hz
   · rw [List.getElem?_append_right (by omega)] at hz
     cases hj : i - l.length with
     | zero =>
       rw [hj] at hz
       simp at hz
       subst hz
       rw [show i = n by omega]
       exact hy
     | succ j => rw [hj] at hz; simp at hz
section
variable {P : Program} {w : World}
theorem q16.cons_app {ro : Nat → Prop} {p q : List PV} {v u : List Value} (h : q16 w ro p v) (h' : q16 w ro q u) : q16 w ro (p ++ q) (v ++ u) := by
 refine ⟨by simp [h.1, h'.1], fun j x y h1 h2 => ?_⟩
 by_cases hj : j < p.length
 · rw [List.getElem?_append_left hj] at h1
   rw [List.getElem?_append_left (by rw [h.1]; exact hj)] at h2
   exact h.2 j x y h1 h2
 · rw [List.getElem?_append_right (by omega)] at h1
   rw [List.getElem?_append_right (by rw [h.1]; omega), h.1] at h2
   exact h'.2 _ x y h1 h2
theorem tile_rep {ro : Nat → Prop} {cs : List Value} {n : Nat} (hn : cs.length = n) : ∀ (fs : List Field) (o : Nat), o ≤ n → tiles P fs o n = true →
  (∀ f ∈ fs, ∃ q, q16 w ro q ((cs.drop f.offset).take (P.cellsOf f.type)) ∧ q.length = P.cellsOf f.type ∧ TyPV P f.type q) →
  ∃ ps, q16 w ro ps (cs.drop o) ∧ ps.length = n - o ∧ ∀ (i : Nat) (f : Field), fs[i]? = some f → o ≤ f.offset ∧ TyPV P f.type ((ps.drop (f.offset - o)).take (P.cellsOf f.type)) := by
 intro fs
 induction fs with
 | nil =>
   intro o ho ht _
   simp [tiles] at ht
   subst ht
   exact ⟨[], ⟨by simp [← hn], by simp⟩, by simp, by simp⟩
 | cons f fs ih =>
   intro o ho ht hf
   simp only [tiles, Bool.and_eq_true, beq_iff_eq] at ht
   obtain ⟨h1, h2⟩ := ht
   obtain ⟨q, hq1, hq2, hq3⟩ := hf f (by simp)
   have hle : o + P.cellsOf f.type ≤ n := by
    have := hq1.1
    rw [hq2, List.length_take, List.length_drop, h1, hn] at this
    omega
   obtain ⟨ps, hp1, hp2, hp3⟩ := ih _ hle h2 fun g hg => hf g (by simp [hg])
   have hsp : cs.drop o = (cs.drop o).take (P.cellsOf f.type) ++ cs.drop (o + P.cellsOf f.type) := by
    rw [← List.drop_drop, List.take_append_drop]
   refine ⟨q ++ ps, ?_, by simp [hq2, hp2]; omega, fun i g hg => ?_⟩
   · rw [hsp]
     rw [h1] at hq1
     exact hq1.cons_app hp1
   · cases i with
     | zero =>
       simp at hg
       subst hg
       refine ⟨by omega, ?_⟩
       rw [h1, Nat.sub_self, List.drop_zero, ← hq2, List.take_left]
       exact hq3
     | succ i =>
       simp at hg
       obtain ⟨h3, h4⟩ := hp3 i g hg
       refine ⟨by omega, ?_⟩
       rw [show g.offset - o = q.length + (g.offset - (o + P.cellsOf f.type)) by omega, List.drop_append, List.drop_of_length_le (by omega), List.nil_append, Nat.add_sub_cancel_left]
       exact h4
variable {H : Type} {enc : TypeId × Value → H} {sp : Nat → Bool} {held : Bool}
theorem q8x {W : World} {ro : Nat → Prop} {v : Value} (hv : v.oneCell' = true) : q16 W ro [.v v] [v] := ⟨rfl, fun j p u h1 h2 => by
 cases j with
 | zero => simp at h1 h2; subst h1 h2; exact .v hv
 | succ j => simp at h1⟩
theorem open_pv {l : List TypeId} (hl : plainB P l = true) : ∀ (fuel : Nat) (t : TypeId) (cs : List Value) (x : DataW H × List MemPlace), t ∈ l → DataW.trod enc P w 0 sp held fuel t cs = some x →
  ∃ ps, q16 w (fun b => b < w.heap.size) ps cs ∧ ps.length = P.cellsOf t ∧ TyPV P t ps := by
 intro fuel
 induction fuel using Nat.strongRecOn with
 | ind fuel ih =>
 intro t cs x ht h
 have hk := List.all_eq_true.1 hl t ht
 split at hk
 · rename_i hu
   obtain ⟨b, rfl, _⟩ := DataW.trod_bool hu h
   exact ⟨_, q8x rfl, (by simpa using hk : P.cellsOf t = 1).symm, .bool hu⟩
 · rename_i k hu
   obtain ⟨n, rfl, _, hw⟩ := DataW.trod_int hu h
   exact ⟨_, q8x rfl, (by simpa using hk : P.cellsOf t = 1).symm, .int hu hw⟩
 · rename_i hu
   obtain ⟨s, rfl, _, hs⟩ := DataW.trod_string hu h
   exact ⟨_, q8x rfl, (by simpa using hk : P.cellsOf t = 1).symm, .str hu hs⟩
 · rename_i e hu
   simp only [Bool.and_eq_true, List.contains_iff_mem, decide_eq_true_eq, beq_iff_eq] at hk
   obtain ⟨⟨he, hz⟩, hone⟩ := hk
   rcases DataW.trod_slice hu h with ⟨rfl, _⟩ | ⟨a, len, cap, elems, rest, n, rfl, rfl, _, hb, h1, h2, h3, h4, _, _⟩
   · exact ⟨[.sl (P.cellsOf e) []], ⟨rfl, fun j p u g1 g2 => by
      cases j with
      | zero => simp at g1 g2; subst g1 g2; exact PRep.nil _ _ _
      | succ j => simp at g1⟩, hone.symm, .sl hu (by simp)⟩
   · have hex : ∀ i, i < len → ∃ y : List Value × List PV, w.cells? 0 (a.add (i * P.cellsOf e)) (P.cellsOf e) = some y.1 ∧ q16 w (fun b => b < w.heap.size) y.2 y.1 ∧ y.2.length = P.cellsOf e ∧ TyPV P e y.2 := by
      intro i hi
      have h5 := h4 i hi
      rw [List.getElem?_eq_getElem (show i < elems.length by omega), Option.bind_eq_some_iff] at h5
      obtain ⟨vs, h6, h7⟩ := h5
      obtain ⟨q, h8, h9, h10⟩ := ih n (by omega) e vs _ he h7
      exact ⟨(vs, q), h6, h8, h9, h10⟩
     obtain ⟨L, hL, hLx⟩ := list_of len hex
     have hcell : ∀ (i : Nat) (y : List Value × List PV), L[i]? = some y → y.1.length = P.cellsOf e ∧ ∀ j, j < P.cellsOf e → w.cell? ((a.add (i * P.cellsOf e)).add j) = y.1[j]? := fun i y hy => (World.cells?_some (hLx i y hy).1).2
     have hlen : len = (L.map (·.2)).length := by simp [hL]
     refine ⟨[.sl (P.cellsOf e) (L.map (·.2))], ⟨rfl, fun j p u g1 g2 => ?_⟩, hone.symm, .sl hu fun q hq => ?_⟩
     · cases j with
       | succ j => simp at g1
       | zero =>
       simp at g1 g2
       subst g1 g2
       rw [hlen]
       refine .sl (vss := L.map (·.1)) (by omega) (by unfold maxLen at h2; omega) (fun hn => by simp at hn) (fun hne => ?_) (by simp) (fun i q hq => ?_) (fun i vs hvs => ?_) (fun i j q vs p u hq hvs hp hv => ?_)
       · have hpos : 0 < L.length := List.length_pos_iff.2 (by intro e; apply hne; simp [e])
         obtain ⟨y0, hy0⟩ : ∃ y, L[0]? = some y := ⟨L[0], List.getElem?_eq_getElem hpos⟩
         obtain ⟨c1, c2⟩ := hcell 0 y0 hy0
         have c3 := c2 0 hz
         rw [List.getElem?_eq_getElem (show 0 < y0.1.length by omega)] at c3
         simp only [Nat.zero_mul] at c3
         have hspot := World.cell?_spot c3
         have hlt : a.block < w.heap.size := by
          unfold World.cell? at c3
          have : (a.add 0).add 0 = a := by simp [Addr.add]
          rw [this] at c3
          split at c3
          · rename_i hh
            exact (Array.getElem?_eq_some_iff.1 hh).1
          · simp at c3
         have ha : a = ⟨a.block, a.off, none⟩ := by
          cases a
          simp [Addr.add] at hspot
          simp [hspot]
         refine ⟨a.block, a.off, by rw [← ha], hlt, fun i vs hvs j hj => ?_⟩
         rw [List.getElem?_map] at hvs
         cases hq : L[i]? with
         | none => rw [hq] at hvs; simp at hvs
         | some y =>
           rw [hq] at hvs
           obtain rfl := Option.some.inj hvs
           obtain ⟨d1, d2⟩ := hcell i y hq
           have hj' : j < y.1.length := hj
           rw [← d2 j (by omega), ha, q4n, q4n]
       · rw [List.getElem?_map] at hq
         cases hy : L[i]? with
         | none => rw [hy] at hq; simp at hq
         | some y =>
           rw [hy] at hq
           obtain rfl := Option.some.inj hq
           exact (hLx i y hy).2.2.1
       · rw [List.getElem?_map] at hvs
         cases hy : L[i]? with
         | none => rw [hy] at hvs; simp at hvs
         | some y =>
           rw [hy] at hvs
           obtain rfl := Option.some.inj hvs
           exact (hcell i y hy).1
       · rw [List.getElem?_map] at hq hvs
         cases hy : L[i]? with
         | none => rw [hy] at hq; simp at hq
         | some y =>
           rw [hy] at hq hvs
           obtain rfl := Option.some.inj hq
           obtain rfl := Option.some.inj hvs
           exact (hLx i y hy).2.1.2 j p u hp hv
     · obtain ⟨y, hy, rfl⟩ := List.mem_map.1 hq
       obtain ⟨i, hi⟩ := List.mem_iff_getElem?.1 hy
       exact (hLx i y hi).2.2.2
 · rename_i fs hu
   simp only [Bool.and_eq_true] at hk
   obtain ⟨htl, hin⟩ := hk
   obtain ⟨xs, n, rfl, _, h1, h2, h3⟩ := DataW.trod_struct hu h
   obtain ⟨ps, hp1, hp2, hp3⟩ := tile_rep (P := P) (w := w) (ro := fun b => b < w.heap.size) (cs := cs) h1 fs.toList 0 (Nat.zero_le _) htl fun f hf => by
    obtain ⟨i, hi⟩ := List.mem_iff_getElem?.1 hf
    have hi' : fs[i]? = some f := by simpa using hi
    have hlt := (Array.getElem?_eq_some_iff.1 hi').1
    have h4 := h3 i f hi'
    rw [List.getElem?_eq_getElem (show i < xs.length by omega)] at h4
    have hm : f.type ∈ l := by simpa using List.all_eq_true.1 hin f hf
    obtain ⟨q, h5, h6, h7⟩ := ih n (by omega) f.type _ _ hm h4
    exact ⟨q, h5, h6, h7⟩
   refine ⟨ps, by simpa using hp1, by rw [hp2]; simp, .struct hu (by rw [hp2]; simp) fun i f hf => ?_⟩
   simpa using (hp3 i f (by simpa using hf)).2
 · simp at hk
def TyAV (P : Program) (t : TypeId) (x : AV) : Prop := ∃ ps, TyPV P t ps ∧ (((∃ fs, P.underlying t = some (.struct fs)) ∧ x = .agg (ps.map .c)) ∨ ((∀ fs, P.underlying t ≠ some (.struct fs)) ∧ ∃ q, ps = [q] ∧ x = .c q))
theorem prepL_rep {W : World} {ro : Nat → Prop} {φ : Nat → Value} {h : Nat → Option Blkd} {ps : List PV} {cs : List Value} (hp : q16 W ro ps cs) : Rep W ro φ h (.agg (ps.map .c)) (.agg cs.toArray) := by
 refine .agg (by simp [hp.1]) fun j x v h1 h2 => ?_
 rw [List.getElem?_map] at h1
 cases hq : ps[j]? with
 | none => rw [hq] at h1; simp at h1
 | some p =>
   rw [hq] at h1
   obtain rfl := Option.some.inj h1
   exact .c (hp.2 j p v hq h2)
theorem prepL_one {W : World} {ro : Nat → Prop} {φ : Nat → Value} {h : Nat → Option Blkd} {ps : List PV} {v : Value} (hp : q16 W ro ps [v]) : ∃ q, ps = [q] ∧ Rep W ro φ h (.c q) v := by
 have := hp.1
 match ps, this with
 | [q], _ => exact ⟨q, rfl, .c (hp.2 0 q v rfl rfl)⟩
theorem j3n {l : List TypeId} (hl : plainB P l = true) {t : TypeId} (ht : t ∈ l) {r : Reach} {base : Nat} {v : Value} {d : DataW H} {p : List MemPlace} (hval : Value.okWide P w r base t v) (h : DataW.Trod enc P w 0 sp held t v d p) :
  ∃ x, TyAV P t x ∧ Rep w (fun b => b < w.heap.size) φ0 h0 x v := by
 obtain ⟨fuel, hf⟩ := h
 obtain ⟨ps, h1, _, h3⟩ := open_pv hl fuel t _ _ ht hf
 have hk := List.all_eq_true.1 hl t ht
 have key : (∀ fs, P.underlying t ≠ some (.struct fs)) → v.cells.toList = [v] → ∃ x, TyAV P t x ∧ Rep w (fun b => b < w.heap.size) φ0 h0 x v := by
  intro hn hc
  rw [hc] at h1
  obtain ⟨q, rfl, hr⟩ := prepL_one (φ := φ0) (h := h0) h1
  exact ⟨_, ⟨_, h3, .inr ⟨hn, q, rfl, rfl⟩⟩, hr⟩
 split at hk
 · rename_i hu
   obtain ⟨b, rfl⟩ := okWide_bool hu hval
   exact key (by simp [hu]) rfl
 · rename_i k hu
   obtain ⟨n, rfl⟩ := okWide_int hu hval
   exact key (by simp [hu]) rfl
 · rename_i hu
   obtain ⟨s, rfl⟩ := okWide_string hu hval
   exact key (by simp [hu]) rfl
 · rename_i e hu
   obtain ⟨a, len, cap, rfl⟩ := okWide_slice hu hval
   exact key (by simp [hu]) rfl
 · rename_i fs hu
   obtain ⟨cs, rfl, _⟩ := okWide_struct hu hval
   exact ⟨_, ⟨_, h3, .inl ⟨⟨fs, hu⟩, rfl⟩⟩, by simpa [Value.cells] using prepL_rep h1⟩
 · simp at hk
theorem reps_nil {W : World} {ro : Nat → Prop} {φ : Nat → Value} {h : Nat → Option Blkd} : ∀ (j : Nat) (x : AV) (v : Value), ([] : List AV)[j]? = some x → ([] : List Value)[j]? = some v → Rep W ro φ h x v := fun j x v h1 => by simp at h1
theorem j3u {W : World} {ro : Nat → Prop} {φ : Nat → Value} {h : Nat → Option Blkd} {y : AV} {u : Value} {l : List AV} {vs : List Value} (hy : Rep W ro φ h y u) (hs : ∀ (j : Nat) (x : AV) (v : Value), l[j]? = some x → vs[j]? = some v → Rep W ro φ h x v) :
  ∀ (j : Nat) (x : AV) (v : Value), (y :: l)[j]? = some x → (u :: vs)[j]? = some v → Rep W ro φ h x v := fun j x v h1 h2 => by
 cases j with
 | zero => simp at h1 h2; subst h1 h2; exact hy
 | succ j => exact hs j x v (by simpa using h1) (by simpa using h2)
end
end
section

section
variable {P : Program}
theorem ty_int {t : TypeId} {k : IntKind} {ps : List PV} (h : TyPV P t ps) (hu : P.underlying t = some (.int k)) : ∃ n, ps = [.v (.int k n)] ∧ (Lit.int k n).wf = true := by
 cases h with
 | int ht hw => obtain rfl := TypeDesc.int.inj (Option.some.inj (ht.symm.trans hu)); exact ⟨_, rfl, hw⟩
 | bool ht => simp [ht] at hu
 | str ht hs => simp [ht] at hu
 | sl ht hx => simp [ht] at hu
 | struct ht hl hx => simp [ht] at hu
theorem ty_str {t : TypeId} {ps : List PV} (h : TyPV P t ps) (hu : P.underlying t = some .string) : ∃ s : List UInt8, ps = [.v (.string (str s))] ∧ s.length ≤ maxLen := by
 cases h with
 | @str _ s ht hs => exact ⟨s.data.toList, by rw [str_of], by rw [← q1t, str_of]; exact hs⟩
 | bool ht => simp [ht] at hu
 | int ht hw => simp [ht] at hu
 | sl ht hx => simp [ht] at hu
 | struct ht hl hx => simp [ht] at hu
end
theorem arg_str {x : AV} (h : TyAV Tryz.prog 9 x) : ∃ s : List UInt8, s.length ≤ maxLen ∧ x = .c (.v (.string (str s))) := by
 obtain ⟨ps, h1, h2⟩ := h
 obtain ⟨s, rfl, hs⟩ := ty_str h1 Tryz.underlying9
 rcases h2 with ⟨⟨fs, h2⟩, _⟩ | ⟨_, q, h2, rfl⟩
 · simp [Tryz.underlying9] at h2
 · simp at h2
   subst h2
   exact ⟨s, hs, rfl⟩
end

theorem arg_int12 {x : AV} (h : TyAV Tryz.prog 3 x) : ∃ n : Int, x = .c (.v (.int .i64 n)) := by
 obtain ⟨ps, h1, h2⟩ := h
 obtain ⟨n, rfl, hn⟩ := ty_int h1 Tryz.underlying3
 rcases h2 with ⟨⟨fs, h2⟩, _⟩ | ⟨_, q, h2, rfl⟩
 · simp [Tryz.underlying3] at h2
 · simp at h2
   subst h2
   exact ⟨n, rfl⟩
section

theorem gWords : Tryz.prog.globalNamed "avocet/naming.words" = some 1 := by kernel_rfl
theorem tWords : (Tryz.prog.globals[1]?).map (·.type) = some 170 := by kernel_rfl
theorem uWords : Tryz.prog.underlying 170 = some (.array 15 9) := by kernel_rfl
theorem cWords : Tryz.prog.cellsOf 9 = 1 := by kernel_rfl
theorem onlyWords : ((List.range Tryz.prog.globals.size).all fun g => g == 1 || (glob Tryz.prog g).isNone) = true := by kernel_rfl
theorem globWords : glob Tryz.prog 1 = some (q2v.map fun w => PV.v (.string (str w))) := by kernel_rfl
theorem j6z {W : World} (h : laidMetH Tryz.prog [("avocet/naming.words", Rows.laid_avocet_naming_words)] W) :
  ∃ cs : Array Value, (∀ i, W.cell? ⟨1, i, none⟩ = cs[i]?) ∧ cs.size = 15 ∧ ∀ (i : Nat) (w : List UInt8), q2v[i]? = some w → cs[i]? = some (.string (str w)) := by
 rw [MakeChecks.laidMetH_plain _ _ _ (by kernel_rfl)] at h
 obtain ⟨ps, ⟨g0, t0, cs0, f0, p0, q0, hg0, ht0, hv0, hd0, _, _⟩, _, _⟩ := h
 obtain rfl := Option.some.inj (gWords.symm.trans hg0)
 obtain rfl := Option.some.inj (tWords.symm.trans ht0)
 obtain ⟨xs, m1, rfl, hx1, hlen, hn15, hel⟩ := DataW.trod_array uWords hd0
 simp only [Rows.laid_avocet_naming_words, Prod.mk.injEq, DataW.agg.injEq] at hx1
 have hx2 : q2v.map (fun w => (DataW.lit (.string w) : DataW Unit)) = xs.map (·.1) := hx1.1
 have hat : ∀ i, i < 15 → ∃ s : ByteArray, cs0[i]? = some (.string s) ∧ ∃ x, xs[i]? = some x ∧ x.1 = .lit (.string s.data.toList) := by
  intro i hi
  obtain ⟨x, hx⟩ : ∃ x, xs[i]? = some x := ⟨xs[i]'(by omega), List.getElem?_eq_getElem (by omega)⟩
  have h1 := hel i hi
  rw [hx] at h1
  obtain ⟨s, e1, e2, _⟩ := DataW.trod_string Tryz.underlying9 h1
  rw [cWords, Nat.mul_one] at e1
  refine ⟨s, ?_, x, hx, by rw [e2]⟩
  have h2 : (cs0.toList.drop i)[0]? = some (.string s) := by
   have h3 : ((cs0.toList.drop i).take 1)[0]? = some (.string s) := by rw [e1]; rfl
   rwa [List.getElem?_take_of_lt (by decide)] at h3
  rw [List.getElem?_drop, Nat.add_zero] at h2
  simpa using h2
 refine ⟨cs0, fun i => World.var?_cell hg0 hv0 i, ?_, fun i w hw => ?_⟩
 · have := hlen
   rw [show Tryz.prog.cellsOf 170 = 15 by kernel_rfl] at this
   simpa using this
 · have hi : i < 15 := (List.getElem?_eq_some_iff.1 hw).1
   obtain ⟨s, h1, x, h2, h3⟩ := hat i hi
   have h4 : (xs.map (·.1))[i]? = some (.lit (.string w)) := by rw [← hx2, List.getElem?_map, hw]; rfl
   rw [List.getElem?_map, h2] at h4
   have h5 : x.1 = .lit (.string w) := Option.some.inj h4
   rw [h3] at h5
   have h6 : s.data.toList = w := Lit.string.inj (DataW.lit.inj h5)
   have h7 : s = str w := by
    apply ByteArray.ext
    rw [← h6]
    show s.data = s.data.toList.toArray
    exact (Array.toArray_toList).symm
   rw [h1, h7]
theorem gok_words {W : World} (h : laidMetH Tryz.prog [("avocet/naming.words", Rows.laid_avocet_naming_words)] W) : GOk Tryz.prog W (fun k => k < W.heap.size) := by
 obtain ⟨cs, h1, h2, h3⟩ := j6z h
 intro g cells hc
 have hg : g = 1 := by
  by_cases hlt : g < Tryz.prog.globals.size
  · have := List.all_eq_true.1 onlyWords g (List.mem_range.2 hlt)
    rw [hc] at this
    simpa using this
  · unfold glob at hc
    rw [Array.getElem?_eq_none (by omega)] at hc
    simp at hc
 subst hg
 rw [globWords] at hc
 obtain rfl := Option.some.inj hc
 refine ⟨?_, cs.toList, fun j hj => ?_, ⟨by simp [h2, q2v], fun j p v hp hv => ?_⟩⟩
 · have h4 := h1 0
   rw [h3 0 [] rfl] at h4
   by_cases hlt : 1 < W.heap.size
   · exact hlt
   · unfold World.cell? at h4
     simp only [] at h4
     rw [Array.getElem?_eq_none (by omega)] at h4
     simp at h4
 · rw [Nat.zero_add, h1 j]
   simp
 · rw [List.getElem?_map] at hp
   cases hw : q2v[j]? with
   | none => rw [hw] at hp; simp at hp
   | some w =>
     rw [hw] at hp
     obtain rfl := Option.some.inj hp
     have h5 := h3 j w hw
     rw [Array.getElem?_toList] at hv
     rw [h5] at hv
     obtain rfl := Option.some.inj hv
     exact .v rfl
section
variable {P : Program} {w : World}
theorem law_toldG (hg : GOk P w (fun k => k < w.heap.size)) {f : FuncId} {args : List AV} (hT : Told P f args (.c (.v (.bool true)))) {vs : List Value} (hl : vs.length = args.length) (hr : ∀ (j : Nat) (x : AV) (v : Value), args[j]? = some x → vs[j]? = some v → Rep w (fun b => b < w.heap.size) φ0 h0 x v) :
  Calls P f vs.toArray w fun e W' => e = .returned (.bool true) ∧ Below w.heap.size w W' := by
 refine (hT.2 w (fun k => k < w.heap.size) vs (fun _ h => h) hg ⟨hl, hr⟩).mono ?_
 rintro e W' ⟨v, ro', rfl, hb, _, _, hr, _⟩
 obtain rfl := q0v hr
 exact ⟨rfl, hb⟩
end
end
end
end Go.Proofs.YthkofkaocipomaaGreatDoor
