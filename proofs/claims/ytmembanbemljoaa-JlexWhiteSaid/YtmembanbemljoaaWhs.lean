/- JlexWhite: the law's walk. -/
import Derived.Test.YtmembanbemljoaaWht
import Derived.Test.YtmembanbemljoaaRarg
namespace Go.Proofs.Ytmembanbemljoaa
open Go.RowKit
set_option linter.unusedVariables false
set_option linter.unusedSimpArgs false

theorem OwnB.later {w w' : World} {base : Nat} {v : Value} {l : List UInt8} (h : OwnB w base v l) (hb : Below w.heap.size w w') : OwnB w' base v l := by
  obtain ⟨h1, h2⟩ := h
  refine ⟨h1, ?_⟩
  rcases h2 with h2 | ⟨g, cap, cur, hv, hbg, hg, hr⟩
  · exact .inl h2
  · refine .inr ⟨g, cap, cur, hv, hbg, ?_, hr⟩
    have hlt : g < w.heap.size := by
      rcases Nat.lt_or_ge g w.heap.size with h | h
      · exact h
      · rw [Array.getElem?_eq_none h] at hg; simp at hg
    rw [hb.block g hlt]
    exact hg
theorem mAll_err {l : List UInt8} : ∀ (n i : Nat) (acc : List MT), l.length - i ≤ n → (mAll l i acc).1 ≠ 0 → (mAll l i acc).2 = [] := by
  intro n
  induction n with
  | zero =>
    intro i acc hn
    rw [mAll]
    split
    · intro _; rfl
    · split
      · intro h; exact absurd rfl h
      · split
        · omega
        · intro _; rfl
  | succ n ih =>
    intro i acc hn
    rw [mAll]
    split
    · intro _; rfl
    · split
      · intro h; exact absurd rfl h
      · split
        · exact ih _ _ (by omega)
        · intro _; rfl
theorem mAll_size {l : List UInt8} : ∀ (n i : Nat) (acc : List MT), l.length - i ≤ n → (mAll l i acc).2.length ≤ acc.length + (l.length - i) := by
  intro n
  induction n with
  | zero =>
    intro i acc hn
    rw [mAll]
    split
    · simp
    · split
      · simp
      · split
        · omega
        · simp
  | succ n ih =>
    intro i acc hn
    rw [mAll]
    split
    · simp
    · split
      · simp
      · split
        · rename_i h
          have := ih (mTakeN l i).nx (acc ++ [mTakeN l i]) (by omega)
          rw [List.length_append, List.length_singleton] at this
          omega
        · simp
def whC (j : Nat) : UInt8 := if j = 0 then 32 else if j = 1 then 9 else if j = 2 then 10 else 13
theorem whC_wh (j : Nat) : isWh (whC j) = true := by
  unfold whC
  repeat' split
  all_goals decide
/-- Which white byte stands ahead of the i-th word. -/
def whI (n : Int) (i : Nat) : Int := (IntKind.u64.wrap (IntKind.u64.wrap n + IntKind.u64.wrap (i : Int))).tmod 4
theorem whI_ok (n : Int) (i : Nat) : 0 ≤ whI n i ∧ whI n i < 4 := by
  have h : 0 ≤ IntKind.u64.wrap (IntKind.u64.wrap n + IntKind.u64.wrap (i : Int)) := by
    generalize IntKind.u64.wrap n + IntKind.u64.wrap (i : Int) = z
    simp [IntKind.wrap, IntKind.bits, IntKind.signed]
    omega
  exact ⟨Int.tmod_nonneg _ h, Int.tmod_lt_of_pos _ (by omega)⟩
theorem wrap_small (i : Nat) (h : i ≤ 1000) : IntKind.u64.wrap (i : Int) = (i : Int) := by
  simp [IntKind.wrap, IntKind.bits, IntKind.signed]
  omega
theorem wh_idx (Wh gi : Nat) (h : gi < 4) (W : World) : (Instr.indexAt 22 (.slice (some ⟨Wh, 0, none⟩) 4 4) (.int .u64 (gi : Int))).run Try.prog W = .ok (.pointer (some ⟨Wh, gi, none⟩)) W := by
  have h1 : (gi : Int) < 4 := by omega
  simp [go_sem, h1, Addr.add]
  intro h; omega
def whG (n : Int) (i : Nat) : UInt8 := whC (whI n i).toNat
def whA : Array Value := #[.int .u8 32, .int .u8 9, .int .u8 10, .int .u8 13]
theorem whA_at (j : Nat) (hj : j < 4) : whA[j]? = some (.int .u8 ((whC j).toNat : Int)) := by
  have h : j = 0 ∨ j = 1 ∨ j = 2 ∨ j = 3 := by omega
  rcases h with rfl | rfl | rfl | rfl <;> rfl
def WhRel (g : Nat → UInt8) (l : List UInt8) (ws : List MT) (K8 : Nat) (V8 : World) (v t : Value) (wr : World) : Prop :=
  ∃ (k : Nat) (a : Option Addr) (c : Nat) (T : List UInt8), t = .int .i64 (k : Int) ∧ v = .slice a T.length c ∧ k ≤ ws.length ∧ T = cs g l (ws.take k) 0 ∧ OwnB wr K8 v T ∧ Below K8 V8 wr

set_option maxRecDepth 100000 in
set_option maxHeartbeats 4000000 in
theorem jlexWhite_walk (a : Option Addr) (b off c : Nat) (l : List UInt8) (n : Int) (w : World) (hb : BytesAt w a b off l) (hlc : l.length ≤ c) (n0 : a = none → c = 0) :
    Calls Try.prog 8 #[.slice a l.length c, .int .i64 n] w fun e w' => e = .returned (.bool true) ∧ Below w.heap.size w w' := by
  obtain ⟨B, hBB⟩ : ∃ B, w.heap.size = B := ⟨_, rfl⟩
  have hWk := Lib.hid (works06_any w)
  rw [hBB] at hWk ⊢
  by_cases hl : 1000 < l.length
  · have hli : (1000 : Int) < (l.length : Int) := by omega
    clear hb
    go_enter Try.func8, Try.ntmps8
    go_wp2_with fail
    refine hWk.out.mono ?_
    rintro r w1 ⟨rfl, hB1⟩
    replace hB1 := Lib.hid hB1
    go_wp2_with fail
    go_ret
    exact ⟨rfl, hB1.out⟩
  have hli : ¬ (1000 : Int) < (l.length : Int) := by omega
  have hbx := Lib.hid fun W (h : Below B w W) => hb.below (hBB ▸ h)
  have hAl := Lib.hid fun W (h : Below B w W) => all_any (hb.below (hBB ▸ h)) hlc (by omega) n0
  obtain ⟨M, hM⟩ : ∃ M, M = mAll l 0 [] := ⟨_, rfl⟩
  have hM1 : M.2.length ≤ 1000 := by
    have := mAll_size (l := l) l.length 0 [] (by omega)
    rw [← hM] at this
    simp at this
    omega
  have hMe : M.1 ≠ 0 → M.2 = [] := by rw [hM]; exact mAll_err _ _ _ (Nat.le_refl _)
  rw [← hM] at hAl
  replace hM := Lib.hid hM
  replace hM1 := Lib.hid hM1
  replace hl := Lib.hid hl
  clear hb
  obtain ⟨e0, ws⟩ := M
  by_cases he0 : e0 = 0
  rotate_left
  · obtain rfl : ws = [] := hMe he0
    have hez : ((e0 : Int) == 0) = false := by simp; omega
    replace he0 := Lib.hid he0
    clear hM hM1 hMe
    go_enter Try.func8, Try.ntmps8
    go_wp2_with fail
    refine hWk.out.mono ?_
    rintro r w1 ⟨rfl, hB1⟩
    have hz1 : B ≤ w1.heap.size := hBB ▸ hB1.size
    replace hB1 := Lib.hid hB1
    go_wp2_with fail
    refine (hAl.out _ hB1.out).mono ?_
    rintro r w2 ⟨v2, rfl, own2, b2⟩
    have hB2 := Lib.hid (hB1.out.trans (b2.mono hz1))
    obtain ⟨a2, c2, rfl, hc2⟩ := own2.slice
    clear b2 own2
    go_wp2_with fail
    go_ret
    exact ⟨rfl, hB2.out⟩
  subst he0
  clear hMe
  obtain ⟨hisw, hcsl, hlaw⟩ := white_law (g := whG n) (fun i => whC_wh _) hM.out.symm
  replace hisw := Lib.hid hisw
  replace hcsl := Lib.hid hcsl
  replace hlaw := Lib.hid hlaw
  go_enter Try.func8, Try.ntmps8
  go_wp2_with fail
  refine hWk.out.mono ?_
  rintro r w1 ⟨rfl, hB1⟩
  have hz1 : B ≤ w1.heap.size := hBB ▸ hB1.size
  replace hB1 := Lib.hid hB1
  go_wp2_with fail
  refine (hAl.out _ hB1.out).mono ?_
  rintro r w2 ⟨v2, rfl, own2, b2⟩
  have hB2 := hB1.out.trans (b2.mono hz1)
  have hz2 : B ≤ w2.heap.size := hBB ▸ hB2.size
  obtain ⟨a2, c2, rfl, hc2⟩ := own2.slice
  obtain ⟨Wh, hWh⟩ : ∃ Wh, w2.heap.size = Wh := ⟨_, rfl⟩
  have hB8 := hB2.alloc hz2 (.cells whA 5)
  have own8 := own2.alloc (.cells whA 5)
  have hwh8 := Blk.made w2 whA 5 Wh hWh
  obtain ⟨V8, hV8⟩ : ∃ V8, V8 = w2.alloc (.cells whA 5) := ⟨_, rfl⟩
  have hV8s : V8.heap.size = Wh + 1 := by rw [hV8]; simp; omega
  rw [← hV8] at hB8 own8 hwh8
  have hKeep := Lib.hid fun W (h : Below (Wh + 1) V8 W) => (⟨own8.kept (hV8s ▸ h), hwh8.kept h (by omega), hB8.trans (h.mono (by omega))⟩ : OwnW 36 W w1.heap.size (.slice a2 ws.length c2) ws ∧ Blk W Wh whA 5 ∧ Below B w W)
  have h0 : WhRel (whG n) l ws (Wh + 1) V8 (.slice none 0 0) (.int .i64 0) V8 := ⟨0, none, 0, [], rfl, rfl, Nat.zero_le _, rfl, OwnB.nil _ _, Below.refl _ _⟩
  replace h0 := Lib.hid h0
  clear hB1 own2 b2 hz1 hWk hAl hB8 own8 hwh8
  replace hB2 := Lib.hid hB2
  unfold whA at hV8
  have hwA := Lib.hid hV8
  go_wp2_with fail
  rw [← hV8]
  clear hV8
  go_loopw [8, 34] (fun v t wr => WhRel (whG n) l ws (Wh + 1) V8 v t wr) (fun _ t _ => ws.length - (intOf t).toNat)
  case atStart => exact h0.out
  case round =>
    obtain ⟨k, a1, c1, T, rfl, rfl, hk, hT, hown, hB⟩ := hrel
    clear h0
    by_cases hlt : k < ws.length
    · have hlti : (k : Int) < (ws.length : Int) := by omega
      obtain ⟨x, hx⟩ : ∃ x, ws[k]? = some x := ⟨ws[k], List.getElem?_eq_getElem hlt⟩
      have hxw := hisw.out x (List.mem_of_getElem? hx)
      have hne0 : ws ≠ [] := by intro e; rw [e] at hlt; simp at hlt
      have hws := (hKeep.out wr hB).1
      obtain ⟨g3, p3, e3, h31, h32, h33⟩ := hws.word hne0
      simp only [Value.slice.injEq, true_and] at e3
      obtain ⟨rfl, rfl⟩ := e3
      obtain ⟨f0, f1, f2, f3, f4⟩ := h33 k x hx
      have q1 : decide ((x.at_ : Int) < 0) = false := by simp
      have q2 : decide (x.nx < x.at_) = false := by have := hxw.lt; simp; omega
      have q3 : decide (l.length < x.nx) = false := by have := hxw.le; simp; omega
      have hsl := seg_len hxw
      obtain ⟨S, hS⟩ : ∃ S, S = seg l x := ⟨_, rfl⟩
      rw [← hS] at hsl
      have hsm := fun W => slice_mid a l.length c x.at_ x.nx (by have := hxw.lt; omega) (by have := hxw.le; omega) W
      rw [← hsl] at hsm
      have hone := Lib.hid fun W (h : Below (Wh + 1) V8 W) => all_any (w := W) (l := S) (c := c - x.at_) (by rw [hS]; exact (hbx.out W (hKeep.out W h).2.2).mid hlc x.at_ x.nx) (by have := hxw.le; omega) (by have := hl.out; have := hxw.le; omega) (tl_nil n0)
      rw [hS, seg_all hxw, ← hS] at hone
      obtain ⟨H, hH⟩ : ∃ H, wr.heap.size = H := ⟨_, rfl⟩
      replace hxw := Lib.hid hxw
      replace hne0 := Lib.hid hne0
      replace hx := Lib.hid hx
      replace hT := Lib.hid hT
      replace hown := Lib.hid hown
      have hBa := Lib.hid fun o => hB.alloc (by have := hB.size; omega) o
      have hH8 : Wh + 1 ≤ H := by have := hB.size; omega
      replace hB := Lib.hid hB
      replace hS := Lib.hid hS
      replace hsl := Lib.hid hsl
      have ck := fun C t => (Blk.made wr C t H hH).cell
      clear hws h33 h31 hk
      go_wp2_with fail
      refine (hone.out _ (hBa.out _)).mono ?_
      rintro r w3 ⟨v3, rfl, own3, b3⟩
      have hB3 := (hBa.out _).trans (b3.mono (by simp; omega))
      have hown3 := Lib.hid ((hown.out.alloc _).later b3)
      have hz3 := Blk.kept (Blk.made wr _ _ H hH) b3 (by simp; omega)
      obtain ⟨g4, p4, rfl, -, h42, h43⟩ := own3.word (by simp)
      obtain ⟨e0, e1, e2, -, -⟩ := h43 0 _ rfl
      have s0 : ∀ z : Nat, (w3.drewN z).cell? ⟨g4, 0, none⟩ = some (.int .i64 (x.k : Int)) := fun z => e0
      have s1 : ∀ z : Nat, (w3.drewN z).cell? ⟨g4, 1, none⟩ = some (.int .i64 x.n) := fun z => e1
      have s2 : ∀ z : Nat, (w3.drewN z).cell? ⟨g4, 2, none⟩ = some (.string (str x.s)) := fun z => e2
      have r0 : ∀ z j : Nat, (w3.drewN z).cell? ⟨H, j, none⟩ = _ := fun z j => (hz3.drewN z).cell j
      replace hB3 := Lib.hid hB3
      replace hz3 := Lib.hid hz3
      clear own3 b3 h43 h42 e0 e1 e2 hown hBa hone hB f0 f1 f2 f3 f4 ck
      go_wp2_with fail
      go_quiet (fail)
      go_wp2_with fail
      generalize hW4 : w3.drewN nq = W4
      obtain ⟨gi, hgi⟩ : ∃ gi : Nat, whI n k = (gi : Int) := ⟨(whI n k).toNat, by have := (whI_ok n k).1; omega⟩
      have hg4 : gi < 4 := by have := (whI_ok n k).2; omega
      obtain ⟨y, hy⟩ : ∃ y, y = whC gi := ⟨_, rfl⟩
      have hyg : whG n k = y := by unfold whG; rw [hgi, hy]; rfl
      have hI1 : (IntKind.u64.wrap (IntKind.u64.wrap n + IntKind.u64.wrap (k : Int))).tmod 4 = (gi : Int) := hgi
      have hix := fun W => wh_idx Wh gi hg4 W
      have hB4 : Below (Wh + 1) V8 W4 := by rw [← hW4]; exact below_drewN hB3.out nq
      have hown4 : OwnB W4 (Wh + 1) (.slice a1 T.length c1) T := by rw [← hW4]; exact hown3.out.drewN nq
      have hz4 := hz3.out.drewN nq
      rw [hW4] at hz4
      have hw4 := (hKeep.out W4 hB4).2.1
      have c3 : W4.cell? ⟨H, 3, none⟩ = some (.int .i64 (x.at_ : Int)) := hz4.cell 3
      have c4 : W4.cell? ⟨H, 4, none⟩ = some (.int .i64 (x.nx : Int)) := hz4.cell 4
      have c5 : W4.cell? ⟨Wh, gi, none⟩ = some (.int .u8 (y.toNat : Int)) := by rw [hy]; exact (hw4.cell gi).trans (whA_at gi hg4)
      obtain ⟨Y, hY⟩ : ∃ Y, W4.heap.size = Y := ⟨_, rfl⟩
      have hTl : T.length ≤ 2000 := by
        have h1 := cs_take_len (whG n) l ws k
        have h2 := hcsl.out
        have h3 := hM1.out
        rw [← hT.out] at h1
        omega
      have hSl : S.length ≤ 1000 := by have := hsl.out; have := hxw.out.le; omega
      have hH4 : H < Y := hY ▸ hz4.lt
      have hB5 := fun o => (hB4.alloc (by omega) o).drew
      have hnew := BytesAt.made W4 [y] #[.int .u8 (y.toNat : Int)] 5 (0, 0) Y hY rfl
      have hne1 : some H ≠ (Value.slice a1 T.length c1).ownBlock := hown4.ne_blk hz4 (by decide)
      have hne2 : some Wh ≠ (Value.slice a1 T.length c1).ownBlock := fun e => by have := (World.ownsRow.lt hown4 Wh e.symm).1; omega
      clear hgi hy
      replace hyg := Lib.hid hyg
      go_region_held3 (fun w' => w'.cell? ⟨H, 3, none⟩ = some (.int .i64 (x.at_ : Int)) ∧ w'.cell? ⟨H, 4, none⟩ = some (.int .i64 (x.nx : Int)) ∧ w'.cell? ⟨Wh, gi, none⟩ = some (.int .u8 (y.toNat : Int)))
        (first
          | go_keep
          | (go_split_ands
             refine ⟨?_, ?_, ?_⟩
             · (rw [hg5.out.cell_far _ (by simp; omega) hne1]; assumption)
             · (rw [hg5.out.cell_far _ (by simp; omega) hne1]; assumption)
             · (rw [hg5.out.cell_far _ (by simp; omega) hne2]; assumption))
          | (go_split_ands
             refine ⟨?_, ?_, ?_⟩
             · (rw [hg6.out.cell_far _ hz5.lt hne3]; assumption)
             · (rw [hg6.out.cell_far _ hz5.lt hne3]; assumption)
             · (rw [hg6.out.cell_far _ hw5.lt hne4]; assumption)))
        (first
          | (refine step_appendB (by rfl) _ _ (by rfl) (by rfl) (Wh + 1) (.slice a1 T.length c1) T [y] (some ⟨Y, 0, none⟩) Y 0 1 1 (by rfl) (by rfl) (by exact hown4.alloc _) (by rfl) (by exact hnew) (by simp) (by simp; omega) (by simp; omega) ?_; intro a5 c5' w5 L5 hL5 hown5 hg5; have hB5' := below_own (w := (W4.alloc (.cells #[.int .u8 (y.toNat : Int)] 5)).drew) (hown4.alloc _) hg5.out (hB5 _) (Nat.le_refl _) (by simp; omega); have hK5 := hKeep.out w5 hB5'; have hw5 := hK5.2.1; have hz5 : Blk w5 H #[.int .i64 (x.k : Int), .int .i64 x.n, .string (str x.s), .int .i64 (x.at_ : Int), .int .i64 (x.nx : Int)] 36 := (hg5.out.block H (by simp; omega) hne1).trans (hz4.kept ((Below.refl Y W4).alloc (by omega) _).drew hH4); have hne3 : some H ≠ (Value.slice a5 L5.length c5').ownBlock := hown5.ne_blk hz5 (by decide); have hne4 : some Wh ≠ (Value.slice a5 L5.length c5').ownBlock := fun e => by have := (World.ownsRow.lt hown5 Wh e.symm).1; omega)
          | (refine step_appendB (by rfl) _ _ (by rfl) (by rfl) (Wh + 1) (.slice a5 L5.length c5') L5 S (tl a x.at_ c) b (off + x.at_) S.length (c - x.at_) (by rfl) (by rfl) (by exact hown5) (by rfl) (by rw [hS.out]; exact (hbx.out w5 hK5.2.2).mid hlc x.at_ x.nx) (by exact tl_nil n0) (by have := congrArg List.length hL5.out; simp at this; omega) (by have := hB5'.size; omega) ?_; intro a6 c6 w6 L6 hL6 hown6 hg6))
      have hB6 := below_own hown5 hg6.out hB5' (Nat.le_refl _) (by have := hB5'.size; omega)
      have hT6 : L6 = cs (whG n) l (ws.take (k + 1)) 0 := by
        rw [hL6.out, hL5.out, cs_next _ _ _ _ _ hx.out, ← hT.out, ← hS.out, hyg.out]
      replace hT6 := Lib.hid hT6
      replace hB6 := Lib.hid hB6
      replace hown6 := Lib.hid hown6
      clear hg6 hg5 hL6 hL5 hown5 hB5' hK5 hw5 hz5 hne3 hne4 hB5 hnew hne1 hne2 hB4 hown4 hz4 hw4 c3 c4 c5 hI1 hix
      have hkb : ws.length ≤ 1000 := hM1.out
      go_wp2_with fail
      go_roundw
      case rel => exact ⟨k + 1, a6, c6, L6, rfl, rfl, by omega, hT6.out, hown6.out, hB6.out⟩
      case measure => simp [intOf]; omega
    · obtain rfl : k = ws.length := by omega
      obtain ⟨ws', hall, hcore⟩ := hlaw.out
      rw [List.take_length] at hT
      have hlen : ws'.length = ws.length := by have := congrArg List.length hcore; simpa using this
      have hTl : T.length ≤ 2000 := by
        have h2 := hcsl.out
        have h3 := hM1.out
        rw [← hT] at h2
        omega
      obtain ⟨Y, hY⟩ : ∃ Y, wr.heap.size = Y := ⟨_, rfl⟩
      have hnew := BytesAt.made wr [32] #[.int .u8 32] 5 (0, 0) Y hY rfl
      have hYs := hB.size
      have hB1 := hB.alloc (by omega) (.cells #[.int .u8 32] 5)
      replace hall := Lib.hid hall
      replace hcore := Lib.hid hcore
      replace hT := Lib.hid hT
      replace hown := Lib.hid hown
      replace hlen := Lib.hid hlen
      clear hk hlt
      go_wp2_with (at_builtin; refine wpList_appendB _ _ rfl rfl rfl (Wh + 1) (.slice a1 T.length c1) T [32] (some ⟨Y, 0, none⟩) Y 0 1 1 rfl rfl (by exact hown.out.alloc _) rfl (by exact hnew) (by simp) (by simp; omega) (by simp; omega) ?_)
      intro a5 c5 w5 L5 hL5 hown5 hg5
      have hB5 := below_own (w := wr.alloc (.cells #[.int .u8 32] 5)) (hown.out.alloc _) hg5.out hB1 (Nat.le_refl _) (by simp; omega)
      obtain ⟨a5', b5, c5', e5, hb5, hlc5, -, h5s⟩ := hown5.parts
      simp only [Value.slice.injEq] at e5
      obtain ⟨rfl, -, rfl⟩ := e5
      have h50 : L5 ≠ [] := by rw [hL5.out]; simp
      have hAm := all_any (c := c5) hb5 hlc5 (by rw [hL5.out, List.length_append]; simp; omega) (by rw [(h5s h50).2]; intro h; simp at h)
      rw [show mAll L5 0 [] = (0, ws') from by rw [hL5.out, hT.out]; exact hall.out] at hAm
      replace hAm := Lib.hid hAm
      have hz5 : Wh + 1 ≤ w5.heap.size := by have := hB5.size; omega
      replace hB5 := Lib.hid hB5
      clear hown5 hg5 hb5 hlc5 h5s h50 hL5 hnew hB1 hown
      go_wp2_with fail
      refine hAm.out.mono ?_
      rintro r w6 ⟨v6, rfl, own6, b6⟩
      have hB6 := hB5.out.trans (b6.mono hz5)
      have hK6 := hKeep.out w6 hB6
      have hws := hK6.1
      have hBw := Lib.hid hK6.2.2
      obtain ⟨a6, c6, rfl, hc6⟩ := own6.slice
      rw [hlen.out] at hc6 ⊢
      have own6' := Lib.hid own6
      replace hws := Lib.hid hws
      have hne : ((ws.length : Int) != (ws.length : Int)) = false := by simp
      clear own6 b6 hB6 hK6 hAm
      go_wp2_with fail
      go_loopw [138] (fun t wr => ∃ k q : Nat, t = .int .i64 (k : Int) ∧ k ≤ ws.length ∧ wr = w6.drewN q) (fun t _ => ws.length - (intOf t).toNat)
      case atStart => exact ⟨0, 0, rfl, Nat.zero_le _, rfl⟩
      case round =>
        obtain ⟨k, q, rfl, hk, hwr⟩ := hrel
        by_cases hlt : k < ws.length
        · have hne0 : ws ≠ [] := by intro e; rw [e] at hlt; simp at hlt
          have hne1 : ws' ≠ [] := by intro e; have := hlen.out; rw [e] at this; simp at this; omega
          obtain ⟨g3, p3, e3, h31, h32, h33⟩ := hws.out.word hne0
          obtain ⟨g4, p4, e4, h41, h42, h43⟩ := own6'.out.word hne1
          simp only [Value.slice.injEq, true_and] at e3
          simp only [Value.slice.injEq, hlen.out, true_and] at e4
          obtain ⟨rfl, rfl⟩ := e3
          obtain ⟨rfl, rfl⟩ := e4
          obtain ⟨x, hx⟩ : ∃ x, ws[k]? = some x := ⟨ws[k], List.getElem?_eq_getElem hlt⟩
          obtain ⟨x', hx'⟩ : ∃ x, ws'[k]? = some x := ⟨ws'[k]'(by rw [hlen.out]; exact hlt), List.getElem?_eq_getElem _⟩
          have hcx : x'.core = x.core := by
            have := congrArg (fun z => z[k]?) hcore.out
            simp only [List.getElem?_map, hx, hx'] at this
            simpa using this
          simp only [MT.core, Prod.mk.injEq] at hcx
          obtain ⟨u0, u1, u2⟩ := hcx
          obtain ⟨f0, f1, f2, -, -⟩ := h33 k x hx
          obtain ⟨e0, e1, e2, -, -⟩ := h43 k x' hx'
          rw [u0] at e0
          rw [u1] at e1
          rw [u2] at e2
          have r0 : ∀ z : Nat, (wr.drewN z).cell? ⟨g3, k * 5, none⟩ = some (.int .i64 (x.k : Int)) := fun z => by rw [hwr]; exact f0
          have r1 : ∀ z : Nat, (wr.drewN z).cell? ⟨g3, k * 5 + 1, none⟩ = some (.int .i64 x.n) := fun z => by rw [hwr]; exact f1
          have r2 : ∀ z : Nat, (wr.drewN z).cell? ⟨g3, k * 5 + 2, none⟩ = some (.string (str x.s)) := fun z => by rw [hwr]; exact f2
          have s0 : ∀ z : Nat, (wr.drewN z).cell? ⟨g4, k * 5, none⟩ = some (.int .i64 (x.k : Int)) := fun z => by rw [hwr]; exact e0
          have s1 : ∀ z : Nat, (wr.drewN z).cell? ⟨g4, k * 5 + 1, none⟩ = some (.int .i64 x.n) := fun z => by rw [hwr]; exact e1
          have s2 : ∀ z : Nat, (wr.drewN z).cell? ⟨g4, k * 5 + 2, none⟩ = some (.string (str x.s)) := fun z => by rw [hwr]; exact e2
          have hlti : (k : Int) < (ws.length : Int) := by omega
          have hkb : ws.length ≤ 1000 := hM1.out
          replace hwr := Lib.hid hwr
          replace hx := Lib.hid hx
          replace hx' := Lib.hid hx'
          replace hne0 := Lib.hid hne0
          replace hne1 := Lib.hid hne1
          clear f0 f1 f2 e0 e1 e2 h33 h43 hk h31 h41 u0 u1 u2
          go_wp2_with fail
          go_quiet (fail)
          go_wp2_with fail
          go_roundw
          case rel => exact ⟨k + 1, _, rfl, by omega, by rw [hwr.out]; exact drew2 _ _ _⟩
          case measure => simp [intOf]; omega
        · obtain rfl : k = ws.length := by omega
          clear hk
          have hBq := Lib.hid (below_drewN hBw.out q)
          subst hwr
          go_wp2_with fail
          go_ret
          exact ⟨rfl, hBq.out⟩

end Go.Proofs.Ytmembanbemljoaa
