/- Pointers, raw addresses, appended strings: what strings.Builder needs. -/
import Derived.Test.YthkofkaocipomaaGreatDoorPkBuildBuildsXAbA
import Derived.Lib.Builder
import Derived.Lib.AppendStr
import Derived.Lib.UnsafeStr
import Derived.Laws.Externs
namespace Go.Proofs.YthkofkaocipomaaGreatDoor
open Go.RowKit
set_option linter.unusedVariables false
set_option linter.unusedSimpArgs false

def zU8 (P : Program) (e : TypeId) : Prop := ((P.info? e).bind (·.zero)) = some (.int .u8 0)
def LiesB (P : Program) (T : TypeId) (z : Nat) (u : TypeId) : Prop := liesAt P P.depth T (z / P.cellsOf T) 0 u 1 = true
def NoEsc (P : Program) (f : FuncId) : Prop := ∀ (x : Value) (W : World), (callFunc f #[x]).run P W = .ok (.value x) W
def q7w (s : ByteArray) : List (List AV) := s.data.toList.map fun b => [AV.c (.v (.int .u8 (b.toNat : Int)))]
theorem moreS_len (s : ByteArray) : (q7w s).length = s.size := by
  rw [q7w, List.length_map, Array.length_toList]
  rfl
theorem j99 {α β : Type} (f : α → β) : ∀ l : List α, (l.map fun b => [f b]).flatten = l.map f
  | [] => rfl
  | a :: l => by simp [j99 f l]
theorem moreS_rep {W : World} {ro : Nat → Prop} {φ : Nat → Value} {h : Nat → Option Blkd} (s : ByteArray) : RepL W ro φ h (q7w s).flatten (Lib.strCells s) := by
  unfold q7w Lib.strCells
  rw [j99]
  refine ⟨by simp, fun j x v h1 h2 => ?_⟩
  rw [List.getElem?_map] at h1 h2
  cases hq : s.data.toList[j]? with
  | none => rw [hq] at h1; simp at h1
  | some q =>
    rw [hq] at h1 h2
    obtain rfl := Option.some.inj h1
    obtain rfl := Option.some.inj h2
    exact .c (.v rfl)
theorem moreS_el {used : Nat → Prop} {h : Nat → Option Blkd} (s : ByteArray) : ∀ e ∈ q7w s, e.length = 1 ∧ ScL used h e ∧ ∀ q ∈ e, q.cellish = true := by
  intro e he
  obtain ⟨b, _, rfl⟩ := List.mem_map.1 he
  refine ⟨rfl, fun x hx => ?_, fun x hx => ?_⟩
  · obtain rfl := List.mem_singleton.1 hx
    exact .c
  · obtain rfl := List.mem_singleton.1 hx
    rfl

section
variable {P : Program} {o : Oper} {ℓ : Nat} {t : Nat → AV} {h : Nat → Option Blkd}
theorem z6s {t u : TypeId} {T E U : TyA} (hT : tyA P t = some T) (hk : T.kind = 1) (hE : tyA P T.elem = some E) (hE1 : E.size = 1) (hEb : E.bytes = 1) (hz8 : zU8 P T.elem) (hU : tyA P u = some U) (hkU : U.kind = 2) {W : World} {v : Value} {n : Nat} {xs : List Value} (hown : W.ownsRow 0 T.elem 1 v n xs) (s : ByteArray) (hn : n + s.size ≤ 1099511627776) :
    ∃ v' W', (Builtin.append_ #[t, u] t #[v, .string s]).run P W = .ok v' W' ∧ W'.ownsRow 0 T.elem 1 v' (n + s.size) (xs ++ Lib.strCells s) ∧ W.grownBy W' v.ownBlock ∧ (v'.ownBlock = v.ownBlock ∨ ∀ b, v'.ownBlock = some b → W.heap.size ≤ b) ∧ (s.size = 0 → v' = v) := by
  obtain ⟨d, i, h2, h3, rfl⟩ := q1v hT
  obtain ⟨e', rfl⟩ := q57 hk
  simp only [q4l] at hE hown hz8 ⊢
  obtain ⟨de, ie, h4, h5, rfl⟩ := q1v hE
  obtain ⟨du, iu, h6, h7, rfl⟩ := q1v hU
  obtain rfl := q8t hkU
  simp only [] at hE1 hEb
  have hz : ie.zero = some (.int .u8 0) := by
    unfold zU8 at hz8
    rw [h5] at hz8
    exact hz8
  have hmx : n + s.size ≤ maxLen := by unfold maxLen; omega
  rcases hown.2 with ⟨rfl, rfl⟩ | ⟨g, cap, cur, rfl, hbg, hg, hnc, hcm, hcs, htake⟩
  · obtain ⟨v', W', r1, r2, r3, r4⟩ := Lib.run_append_own_string (P := P) W W.heap.size t u t e' ie h2 h6 h5 hz hE1 hEb (.slice none 0 0) 0 xs ⟨hown.1, .inl ⟨rfl, rfl⟩⟩ s hmx (by omega) (Nat.le_refl _)
    refine ⟨v', W', r1, ⟨r2.1, ?_⟩, r3, .inr fun b hb => ?_, fun h0 => r4.2 ⟨rfl, h0⟩⟩
    · rcases r2.2 with h | ⟨g, cap, cur, a1, a2, a3⟩
      · exact .inl h
      · exact .inr ⟨g, cap, cur, a1, Nat.zero_le _, a3⟩
    · rcases r2.2 with ⟨h, _⟩ | ⟨g, cap, cur, a1, a2, a3⟩
      · rw [h] at hb; simp [Value.ownBlock] at hb
      · rw [a1] at hb; simp [Value.ownBlock] at hb; omega
  · obtain ⟨v', W', r1, r2, r3, r4⟩ := Lib.run_append_own_string (P := P) W 0 t u t e' ie h2 h6 h5 hz hE1 hEb _ n xs hown s hmx (by omega) (Nat.zero_le _)
    by_cases hroom : n + s.size ≤ cap
    · have hcs' : cur.size = cap := by simpa using hcs
      have hr := Lib.run_append_room_string (P := P) W t u t e' ie h2 h6 h5 hE1 g n cap cur hg s hroom (by omega)
      have hv : v' = .slice (some ⟨g, 0, none⟩) (n + s.size) cap := by
        have := r1.symm.trans hr
        injection this
      refine ⟨v', W', r1, r2, r3, .inl (by rw [hv]; rfl), fun h0 => by rw [hv, h0]; rfl⟩
    · have holds : ∀ j u, xs[j]? = some u → W.cell? ((⟨g, 0, none⟩ : Addr).add j) = some u := hown.cells (g := g) rfl
      have hxl : xs.length = n := by simpa using hown.1
      have hr := Lib.run_append_grow_string (P := P) W t u t e' ie (.int .u8 0) h2 h6 h5 hz ⟨g, 0, none⟩ n cap xs (by rw [hE1]; simpa using hxl) holds s (by omega) (by omega) (by rw [hEb]; exact growslice_fits (by omega) (by omega))
      have hv := r1.symm.trans hr
      injection hv with hv _
      refine ⟨v', W', r1, r2, r3, .inr fun b hb => ?_, fun h0 => by omega⟩
      rw [hv] at hb
      simp [Value.ownBlock] at hb
      omega
theorem J_appendS (ty tu : TypeId) (x y : Operand) (T E : TyA) (j n : Nat) (B : Blkd) (ho : o.op = .call { callee := .builtin .append, args := #[x, y], argTypes := #[ty, tu] }) (hty : o.type = ty) (hx : okx t x) (hy : okx t y) (ex : ev t x = .row j n)
    (hT : tyA P ty = some T) (hk : T.kind = 1) (hE : tyA P T.elem = some E) (hE0 : 0 < E.size) (hEz : E.zero.length = E.size) (hB : h j = some B) (hrow : B.row = true) (hn : B.len = n) (hBT : B.T = T.elem) (hBz : B.z = E.size) (hEb : E.bytes = 1) (hE1 : E.size = 1) (hz8 : zU8 P T.elem) (U : TyA) (hU : tyA P tu = some U) (hkU : U.kind = 2) (s : ByteArray) (ey : ev t y = .c (.v (.string s)))
    (hb : n + s.size ≤ 1099511627776) :
    J P o ℓ t h ⟨.row j (n + s.size), [j], [(j, some (grown B (q7w s)))]⟩ := by
  intro C used N t1 h1 ro φ a W ht hh hu hd r K Q hK
  obtain ⟨x2, x3⟩ := q22 ht (x := x) (by simp [ho, Op.operands, Call.operands])
  obtain ⟨y2, y3⟩ := q22 ht (x := y) (by simp [ho, Op.operands, Call.operands])
  have hrx := q1c r x (x3 ▸ hx)
  have hry := q1c r y (y3 ▸ hy)
  have hsy := q3j r y (y3 ▸ hy)
  rw [x2, ex] at hrx
  rw [y2, ey] at hry
  have hyv := q13 hry
  have hB1 : h1 j = some B := (hh j (by simp)).trans hB
  obtain ⟨m, hml⟩ : ∃ m, m = s.size := ⟨_, rfl⟩
  obtain ⟨es, hes⟩ : ∃ es, es = q7w s := ⟨_, rfl⟩
  obtain ⟨news, hnw⟩ : ∃ news, news = Lib.strCells s := ⟨_, rfl⟩
  have hme : es.length = m := by rw [hes, hml, moreS_len]
  have hnl : RepL W ro φ h1 es.flatten news := by rw [hes, hnw]; exact moreS_rep s
  have hne : ∀ e ∈ es, e.length = E.size ∧ ScL used h1 e ∧ ∀ q ∈ e, q.cellish = true := by rw [hes, hE1]; exact moreS_el s
  rw [← hml] at hb
  rw [← hml, ← hes] at hK
  generalize hvx : a.eval x = vx at hrx
  have hBr := r.hp j B hB1
  obtain ⟨hb1, hb2, vs, hb3, hb4⟩ := hBr
  rw [if_pos hrow, hBT, hBz, hn] at hb4
  cases hrx with
  | row _ hrx =>
    obtain rfl := hrx B hB1 hn
    have hnel : ∀ (i : Nat) (e : List AV), es[i]? = some e → e.length = E.size := fun i e he => (hne e (List.mem_of_getElem? he)).1
    have hnews : news.length = m * E.size := by rw [hnl.1, q42 hnel, hme]
    have hones := hnl.ones fun q hq => by
      obtain ⟨e, he, hq⟩ := List.mem_flatten.1 hq
      exact (hne e he).2.2 q hq
    rw [hE1] at hb4
    obtain ⟨v', W', g1, g2, g3, g4, g5⟩ := z6s hT hk hE hE1 hEb hz8 hU hkU hb4 s (by rw [← hml]; exact hb)
    rw [← hnw, ← hml] at g2
    rw [← hml] at g5
    have hex : (execOp a.eval o).run P W = .ok (.value v') W' := by
      simp [execOp, ho, resolve, invoke, builtin, hvx, hyv, hty, g1]
    unfold Oper.wp
    rw [hex]
    have hbv : q0y v' = v'.ownBlock := q6q g2
    have hbφ : q0y (φ j) = (φ j).ownBlock := q6q hb4
    have hkeep : Keeps (fun b => q0y v' = some b ∨ (∃ B0, h1 j = some B0 ∧ q0y (φ j) = some b)) W W' :=
      ⟨g3.os, g3.tape, g3.output, g3.size, fun k hk hn => g3.block k hk fun e => hn (.inr ⟨B, hB1, by rw [hbφ]; exact e.symm⟩)⟩
    have hwo : ∀ b', ro b' → W'.heap[b']? = W.heap[b']? := fun b' hb' => g3.block b' (r.rolt b' hb') fun e => (r.own j B b' hB1 (by rw [hbφ]; exact e.symm)).1 hb'
    have hlen : (grown B es).len = n + m := by
      show (B.elems ++ es).length = n + m
      rw [List.length_append, hme, ← hn]
      rfl
    have hlen2 : (∃ B0, h1 j = some B0 ∧ (B0.len < (grown B es).len ∨ (B0.len = (grown B es).len ∧ B0.z = (grown B es).z ∧ v' = φ j))) ∨ ¬ used j := by
      refine .inl ⟨B, hB1, ?_⟩
      rw [hlen, hn]
      rcases Nat.eq_zero_or_pos m with h0 | h0
      · exact .inr ⟨by omega, rfl, g5 h0⟩
      · exact .inl (by omega)
    have hg : Goes used φ (upd φ j v') h1 (upd h1 j (some (grown B es))) := by
      intro k B' hk' hB'
      by_cases hkj : k = j
      · subst hkj
        rw [q1a] at hB'
        obtain rfl := Option.some.inj hB'
        rcases hlen2 with ⟨B0, h5, h6⟩ | h6
        · exact ⟨B0, h5, by rw [q1a]; exact h6⟩
        · exact absurd hk' h6
      · rw [q1p _ _ hkj] at hB'
        exact ⟨B', hB', .inr ⟨rfl, rfl, q1p _ _ hkj⟩⟩
    have hsg : ∀ k B', used k → upd h1 j (some (grown B es)) k = some B' → ∃ B0, h1 k = some B0 ∧ B0.len ≤ B'.len := fun k B' hk' hB' => by
      obtain ⟨B0, h5, h6⟩ := hg k B' hk' hB'
      exact ⟨B0, h5, by rcases h6 with h6 | h6 <;> omega⟩
    have hscB : ∀ e ∈ (grown B es).elems, ScL used h1 e := fun e he => by
      rcases List.mem_append.1 he with he | he
      · exact (r.scH j B hB1).2 e he
      · exact (hne e he).2.1
    have r2 := r.block (W' := W') (ℓ := j) (B := grown B es) (v := v') hkeep
      (fun b' hb' => by
        rw [hbv] at hb'
        rcases g4 with g4 | g4
        · exact .inr ⟨B, hB1, by rw [hbφ, ← g4, hb']⟩
        · exact .inl (g4 _ hb')) hlen2
      ⟨fun i e he => by
          obtain ⟨k, hk', hke⟩ := List.getElem_of_mem (List.mem_of_getElem? he)
          rcases List.mem_append.1 (List.mem_of_getElem? he) with he' | he'
          · obtain ⟨q, hq, hqe⟩ := List.getElem_of_mem he'
            exact hb1 q e (by rw [List.getElem?_eq_getElem hq, hqe])
          · show e.length = B.z
            rw [hBz]; exact (hne e he').1,
        fun e he x hx => by
          rcases List.mem_append.1 he with he | he
          · exact hb2 e he x hx
          · exact (hne e he).2.2 x hx,
        vs ++ news, by
          have : RepL W ro φ h1 (grown B es).elems.flatten (vs ++ news) := by
            simp only [grown, List.flatten_append]
            exact hb3.app hnl
          exact this.map (fun x hx => by obtain ⟨e, he, hx⟩ := List.mem_flatten.1 hx; exact hscB e he x hx) hwo (fun _ h => h) hg, by
          rw [if_pos (show (grown B es).row = true from hrow), q1a, hlen]
          show W'.ownsRow 0 B.T B.z v' (n + m) (vs ++ news)
          rw [hBT, hBz]
          rw [hE1]
          exact g2⟩
      (fun e he x hx => (hscB e he x hx).map (fun k hk => .inl hk) hsg)
    have r3 := r2.put (d := o.dst) (x := .row j (n + m)) (v := v')
      (.row (by rcases g2.2 with ⟨q, _⟩ | ⟨_, _, _, q, _⟩ <;> rw [q] <;> rfl) fun B' hB' hn' => by rw [q1a])
      (.row (.inr rfl) fun B' hB' => by
        rw [q1a] at hB'
        obtain rfl := Option.some.inj hB'
        omega) hd
    exact hK _ _ ro _ (r3.take fun k hk' => by
      rcases hk' with hk' | rfl
      · exact .inl hk'
      · exact .inl (r.scH _ B hB1).1)

theorem j3z (op : BinOp) (ty ty' : TypeId) (x y : Operand) (T : TyA) (b : Bool) (ho : o.op = .binOp op ty x y ty') (hop : (op = .eql ∧ b = false) ∨ (op = .neq ∧ b = true)) (hx : okx t x) (hy : okx t y)
    (ex : (∃ j n i off B, ev t x = .ref j n i off ∧ h j = some B ∧ B.len = n) ∨ ∃ e, ev t x = .pp e) (ey : ev t y = .c (.v (.pointer none))) (hT : tyA P ty = some T) (hk : T.kind = 7) :
    J P o ℓ t h ⟨.c (.v (.bool b)), (match ev t x with | .ref j _ _ _ => [j] | _ => []), []⟩ := by
  refine J.val fun C used N t1 h1 ro φ a W ht hh r => ⟨.bool b, ?_, .c (.v rfl), .c⟩
  obtain ⟨h2, h3⟩ := ht x (by simp [ho, Op.operands])
  obtain ⟨h4, h5⟩ := ht y (by simp [ho, Op.operands])
  have hr := q1c r x (h3 ▸ hx)
  have hry := q13 (h := h1) (by rw [← ey, ← h4]; exact q1c r y (h5 ▸ hy))
  rw [h2] at hr
  obtain ⟨ad, had⟩ : ∃ ad, a.eval x = .pointer (some ad) := by
    rcases ex with ⟨j, n, i, off, B, ex, hB, hn⟩ | ⟨e, ex⟩
    · rw [ex] at hr hh
      have hB1 : h1 j = some B := (hh j (by simp)).trans hB
      generalize a.eval x = v at hr
      cases hr with
      | ref _ hr =>
        obtain ⟨b', hb', rfl⟩ := hr B hB1 hn
        exact ⟨_, rfl⟩
    · rw [ex] at hr
      generalize a.eval x = v at hr
      cases hr with
      | pp => exact ⟨_, rfl⟩
  obtain ⟨d, i, a1, a2, rfl⟩ := q1v hT
  obtain ⟨e, rfl⟩ := j2o hk
  have he : (Op.equal ty (.pointer (some ad)) (.pointer none)).run P W = .ok false W := by
    show (Op.equalIn (9999 + 1) ty _ _).run P W = _
    rw [Op.equalIn]
    simp [run_underlying a1]
  have hg : (eqGuard op ty x y (.pointer (some ad)) (.pointer none)).run P W = .ok () W := by
    rcases hop with ⟨rfl, _⟩ | ⟨rfl, _⟩ <;> simp [eqGuard]
  rcases hop with ⟨rfl, rfl⟩ | ⟨rfl, rfl⟩ <;> simp [execOp, ho, had, hry, hg, binOp, he]
theorem j8v (op : BinOp) (ty ty' : TypeId) (x y : Operand) (T E : TyA) (b : Bool) (j n i off : Nat) (B : Blkd) (ho : o.op = .binOp op ty x y ty') (hop : (op = .eql ∧ b = true) ∨ (op = .neq ∧ b = false)) (hx : okx t x) (hy : okx t y)
    (ex : ev t x = .ref j n i off) (ey : ev t y = .ref j n i off) (hB : h j = some B) (hn : B.len = n) (hT : tyA P ty = some T) (hk : T.kind = 7) (hE : tyA P T.elem = some E) (hE0 : E.size ≠ 0) : J P o ℓ t h ⟨.c (.v (.bool b)), [j], []⟩ := by
  refine J.val fun C used N t1 h1 ro φ a W ht hh r => ⟨.bool b, ?_, .c (.v rfl), .c⟩
  obtain ⟨h2, h3⟩ := ht x (by simp [ho, Op.operands])
  obtain ⟨h4, h5⟩ := ht y (by simp [ho, Op.operands])
  have hr := q1c r x (h3 ▸ hx)
  have hry := q1c r y (h5 ▸ hy)
  rw [h2, ex] at hr
  rw [h4, ey] at hry
  have hB1 : h1 j = some B := (hh j (by simp)).trans hB
  obtain ⟨b', hb', hvx⟩ : ∃ b', q0y (φ j) = some b' ∧ a.eval x = .pointer (some ⟨b', i * B.z + off, none⟩) := by
    generalize a.eval x = v at hr
    cases hr with
    | ref _ hr => exact hr B hB1 hn
  obtain ⟨b'', hb'', hvy⟩ : ∃ b', q0y (φ j) = some b' ∧ a.eval y = .pointer (some ⟨b', i * B.z + off, none⟩) := by
    generalize a.eval y = v at hry
    cases hry with
    | ref _ hr => exact hr B hB1 hn
  rw [hb'] at hb''
  obtain rfl := Option.some.inj hb''
  obtain ⟨d, i, a1, a2, rfl⟩ := q1v hT
  obtain ⟨e, rfl⟩ := j2o hk
  simp only [q4l] at hE
  obtain ⟨d', i', a3, a4, rfl⟩ := q1v hE
  have he : ∀ ad : Addr, (Op.equal ty (.pointer (some ad)) (.pointer (some ad))).run P W = .ok true W := fun ad => by
    simp only [] at hE0
    have hq : ∀ d : Nat, (Op.equalIn (d + 1) ty (.pointer (some ad)) (.pointer (some ad))).run P W = .ok true W := fun d => by
      simp [Op.equalIn, run_underlying a1, sizeOf, typeInfo, a4, hE0, run_sameAddr_same]
    exact hq 9999
  have hg : ∀ ad : Addr, (eqGuard op ty x y (.pointer (some ad)) (.pointer (some ad))).run P W = .ok () W := fun ad => by
    rcases hop with ⟨rfl, _⟩ | ⟨rfl, _⟩ <;> simp [eqGuard]
  rcases hop with ⟨rfl, rfl⟩ | ⟨rfl, rfl⟩ <;> simp [execOp, ho, hvx, hvy, hg, binOp, he]
theorem J_convU (src dst : TypeId) (x : Operand) (S D : TyA) (j n : Nat) (B : Blkd) (e : List AV) (ho : o.op = .convert src dst x) (hS : tyA P src = some S) (hD : tyA P dst = some D) (hx : okx t x) (ex : ev t x = .ref j n 0 0) (hB : h j = some B) (hn : B.len = n) (hn1 : n = 1) (hrow : B.row = false) (hz : 0 < B.z)
    (hk : (S.kind = 7 ∧ D.kind = 8 ∧ ∃ E, tyA P S.elem = some E ∧ E.size ≠ 0) ∨ (S.kind = 8 ∧ D.kind = 7 ∧ (∃ E, tyA P D.elem = some E) ∧ LiesB P B.T B.z D.elem)) : J P o ℓ t h ⟨.ref j n 0 0, [j], []⟩ := by
  subst hn1
  refine J.val fun C used N t1 h1 ro φ a W ht hh r => ?_
  obtain ⟨h2, h3⟩ := ht x (by simp [ho, Op.operands])
  have hr := q1c r x (h3 ▸ hx)
  have hsc := q3j r x (h3 ▸ hx)
  rw [h2, ex] at hr hsc
  have hB1 : h1 j = some B := (hh j (by simp)).trans hB
  refine ⟨a.eval x, ?_, hr, hsc⟩
  obtain ⟨bb, cur, hbb, hcur, hvar, _, hsz, _⟩ := (r.hp j B hB1).mem (List.getElem?_eq_getElem (show 0 < B.elems.length from by unfold Blkd.len at hn; omega))
  obtain ⟨_, hcs⟩ := hvar hrow
  rw [hn, Nat.one_mul] at hcs
  have hsh : W.shape? bb = some (B.T, B.z) := by rw [← hcs]; simp [World.shape?, hcur]
  obtain ⟨b', hb', hvx⟩ : ∃ b', q0y (φ j) = some b' ∧ a.eval x = .pointer (some ⟨b', 0 * B.z + 0, none⟩) := by
    generalize a.eval x = v at hr
    cases hr with
    | ref _ hr => exact hr B hB1 hn
  rw [hbb] at hb'
  obtain rfl := Option.some.inj hb'
  rw [show 0 * B.z + 0 = 0 from by simp] at hvx
  obtain ⟨d, i, a1, a2, rfl⟩ := q1v hS
  obtain ⟨d', i', a3, a4, rfl⟩ := q1v hD
  rcases hk with ⟨k1, k2, E, hE, hE0⟩ | ⟨k1, k2, ⟨E, hE⟩, hl⟩
  · obtain ⟨e, rfl⟩ := j2o k1
    obtain rfl := z0r k2
    simp only [q4l] at hE
    obtain ⟨d2, i2, a5, a6, rfl⟩ := q1v hE
    have := Lib.run_to_unsafe (P := P) W ⟨bb, 0, none⟩ a1 a3 a6 hE0 hsh hz
    simp [execOp, ho, hvx, this]
  · obtain ⟨e, rfl⟩ := j2o k2
    obtain rfl := z0r k1
    simp only [q4l] at hE hl
    obtain ⟨d2, i2, a5, a6, rfl⟩ := q1v hE
    have := Lib.run_from_unsafe (P := P) W ⟨bb, 0, none⟩ a1 a3 a6 hsh hl
    simp [execOp, ho, hvx, this]
theorem J_noEsc (c : Operand) (f : FuncId) (x : Operand) (tys : Array TypeId) (ho : o.op = .call { callee := .value c, args := #[x], argTypes := tys }) (hc : okx t c) (ec : ev t c = .fn (.func f) [] []) (hx : okx t x) (hf : NoEsc P f) : J P o ℓ t h ⟨ev t x, [], []⟩ := by
  refine J.val fun C used N t1 h1 ro φ a W ht hh r => ?_
  obtain ⟨h2, h3⟩ := ht x (by simp [ho, Op.operands, Call.operands])
  obtain ⟨c2, c3⟩ := ht c (by simp [ho, Op.operands, Call.operands])
  have hr := q1c r x (h3 ▸ hx)
  have hsc := q3j r x (h3 ▸ hx)
  have hrc := q1c r c (c3 ▸ hc)
  rw [h2] at hr hsc
  rw [c2, ec] at hrc
  refine ⟨a.eval x, ?_, hr, hsc⟩
  generalize hcv : a.eval c = v at hrc
  cases hrc with
  | @fn _ _ _ us vs hl hxx hl' hxx' =>
    obtain rfl := List.eq_nil_of_length_eq_zero hl
    obtain rfl := List.eq_nil_of_length_eq_zero hl'
    have := hf (a.eval x) W
    simp [execOp, ho, resolve, hcv, Deferred.ofValue, invoke, this]
theorem z3y (x : Operand) (ty : TypeId) (j n : Nat) (B : Blkd) (ho : o.op = .call { callee := .builtin .unsafeSliceData, args := #[x], argTypes := #[ty] }) (hx : okx t x) (ex : ev t x = .row j n) (hB : h j = some B) (hn : B.len = n) (h0 : 0 < n) (hrow : B.row = true) : J P o ℓ t h ⟨.ref j n 0 0, [j], []⟩ := by
  refine J.val fun C used N t1 h1 ro φ a W ht hh r => ?_
  obtain ⟨h2, h3⟩ := ht x (by simp [ho, Op.operands, Call.operands])
  have hr := q1c r x (h3 ▸ hx)
  have hsc := q3j r x (h3 ▸ hx)
  rw [h2, ex] at hr hsc
  have hB1 : h1 j = some B := (hh j (by simp)).trans hB
  obtain ⟨bb, cur, hbb, hcur, _, hr2, _⟩ := (r.hp j B hB1).mem (List.getElem?_eq_getElem (show 0 < B.elems.length from by unfold Blkd.len at hn; omega))
  obtain ⟨cap, hφ, hcap, _⟩ := hr2 hrow
  generalize hv : a.eval x = v at hr
  cases hr with
  | row _ hr =>
    obtain rfl := hr B hB1 hn
    refine ⟨.pointer (some ⟨bb, 0, none⟩), ?_, .ref rfl fun B' hB' hn' => ⟨bb, hbb, by simp⟩, ?_⟩
    · have := Lib.run_unsafeSliceData_row (P := P) W #[ty] o.type ⟨bb, 0, none⟩ B.len cap (by omega)
      simp [execOp, ho, resolve, invoke, builtin, hv, hφ, this]
    · cases hsc with | row hu hle => exact .ref hu hle
theorem z3z (x y : Operand) (pt it : TypeId) (S E : TyA) (j n : Nat) (B : Blkd) (es : List (List PV)) (ho : o.op = .call { callee := .builtin .unsafeString, args := #[x, y], argTypes := #[pt, it] }) (hx : okx t x) (hy : okx t y) (ex : ev t x = .ref j n 0 0) (ey : ev t y = .c (.v (.int .i64 (n : Int))))
    (hS : tyA P pt = some S) (hks : S.kind = 7) (hT : B.T = S.elem) (hE : tyA P S.elem = some E) (hE1 : E.size = 1) (hB : h j = some B) (hrow : B.row = true) (hn : B.len = n) (h0 : 0 < n) (hz : B.z = 1) (he : B.elems = es.map fun e => e.map .c) (hb : q51 es) :
    J P o ℓ t h ⟨.c (.v (.string (bstr (q3c es)))), [j], [(j, none)]⟩ := by
  intro C used N t1 h1 ro φ a W ht hh hu hd r K Q hK
  obtain ⟨x2, x3⟩ := q22 ht (x := x) (by simp [ho, Op.operands, Call.operands])
  obtain ⟨y2, y3⟩ := q22 ht (x := y) (by simp [ho, Op.operands, Call.operands])
  have hrx := q1c r x (x3 ▸ hx)
  have hvy := q13 (h := h1) (by rw [← ey, ← y2]; exact q1c r y (y3 ▸ hy))
  rw [x2, ex] at hrx
  have hB1 : h1 j = some B := (hh j (by simp)).trans hB
  obtain ⟨b, cur, hbb, hcur, _, hr2, hsz, hrl⟩ := (r.hp j B hB1).mem (List.getElem?_eq_getElem (show 0 < B.elems.length from by unfold Blkd.len at hn; omega))
  obtain ⟨cap, hφ, hcap, hmx, hcs⟩ := hr2 hrow
  obtain ⟨b', hb', hvx⟩ : ∃ b', q0y (φ j) = some b' ∧ a.eval x = .pointer (some ⟨b', 0 * B.z + 0, none⟩) := by
    generalize a.eval x = v at hrx
    cases hrx with
    | ref _ hr => exact hr B hB1 hn
  rw [hbb] at hb'
  obtain rfl := Option.some.inj hb'
  rw [show 0 * B.z + 0 = 0 from by simp] at hvx
  have hlen : B.len = es.length := by unfold Blkd.len; rw [he]; simp
  have hbl : (q3c es).length = n := by unfold q3c; rw [List.length_map, ← hlen, hn]
  obtain ⟨d1, i1, a1, _, rfl⟩ := q1v hS
  obtain ⟨e, rfl⟩ := j2o hks
  simp only [q4l] at hE hT
  obtain ⟨d3, i3, a3, a4, rfl⟩ := q1v hE
  have hsh : W.shape? b = some (e, cur.size) := by rw [← hT]; simp [World.shape?, hcur]
  have hlecur : n ≤ cur.size := by rw [hcs, hz]; omega
  have hcells : ∀ k x, (q3c es)[k]? = some x → W.cell? ((⟨b, 0, none⟩ : Addr).add k) = some (.int .u8 x.toNat) := by
    intro k x hk
    have hkl := (List.getElem?_eq_some_iff.1 hk).1
    rw [hbl] at hkl
    unfold q3c at hk
    rw [List.getElem?_map] at hk
    cases hq : es[k]? with
    | none => rw [hq] at hk; simp at hk
    | some p =>
      rw [hq] at hk
      obtain ⟨m, rfl, hm1, hm2⟩ := hb p (List.mem_of_getElem? hq)
      obtain rfl := Option.some.inj hk
      have hfl : B.elems.flatten[k]? = some (AV.c (.v (.int .u8 m))) := by
        have h5 := q6k (r.hp j B hB1).1 (i := k) (e := [AV.c (.v (.int .u8 m))]) (by rw [he, List.getElem?_map, hq]; rfl)
        rw [hz, Nat.mul_one] at h5
        have h6 : (List.take 1 (List.drop k B.elems.flatten))[0]? = some (AV.c (.v (.int .u8 m))) := by rw [h5]; rfl
        rw [List.getElem?_take_of_lt (by omega), List.getElem?_drop] at h6
        simpa using h6
      rw [q8g, Nat.zero_add]
      have hlt : k < (cur.toList.take (B.len * B.z)).length := by rw [List.length_take, Array.length_toList, hn, hz, Nat.mul_one]; omega
      have h7 := j12 hcur (B.len * B.z) k hlt
      rw [Nat.zero_add] at h7
      rw [h7, List.getElem?_eq_getElem hlt]
      have h8 := hrl.2 k _ _ hfl (List.getElem?_eq_getElem hlt)
      rw [q13 h8]
      simp only [Option.getD_some, List.getElem?_cons_zero, j38]
      congr 2
      have : m.toNat < 256 := by omega
      simp
      omega
  generalize hW' : W.freeze ⟨b, 0, none⟩ n = W'
  have hex : (execOp a.eval o).run P W = .ok (.value (.string (bstr (q3c es)))) W' := by
    have := Lib.run_unsafeString_row (P := P) W pt it o.type e a1 (by simp [Program.cellsOf, a4]; exact hE1) b cur.size hsh (q3c es) (by intro e; rw [e] at hbl; simp at hbl; omega) (by rw [hbl]; exact hlecur) (by unfold maxLen at hmx; omega) hcells
    rw [hbl, hW'] at this
    simp [execOp, ho, resolve, invoke, builtin, hvx, hvy, this, bstr]
  have hn0 : ¬ n = 0 := by omega
  have hkeep : Keeps (fun k => k = b) W W' := by
    rw [← hW']
    unfold World.freeze
    rw [if_neg hn0]
    refine ⟨rfl, rfl, rfl, by simp, fun k _ hk => ?_⟩
    simp only [Array.getElem?_modify]
    rw [if_neg (fun e => hk e.symm)]
  unfold Oper.wp
  rw [hex]
  have r2 := r.drop hB1 hbb hkeep
  exact hK _ _ _ φ ((r2.put (d := o.dst) (x := .c (.v (.string (bstr (q3c es))))) (.c (.v rfl)) .c hd).take fun j hj => .inl hj)
end

end Go.Proofs.YthkofkaocipomaaGreatDoor
