/- The law JlexTakes: the walk. -/
import Derived.Test.YtmembanbemljoaaRarg
namespace Go.Proofs.Ytmembanbemljoaa
open Go.RowKit
set_option linter.unusedVariables false
set_option linter.unusedSimpArgs false

theorem mAll_len {l : List UInt8} : ∀ (n i : Nat) (acc : List MT), l.length - i ≤ n → (mAll l i acc).2.length ≤ acc.length + (l.length - i) := by
  intro n
  induction n with
  | zero =>
    intro i acc hn
    rw [mAll]
    split
    · simp
    · split
      · simp
      · split
        · omega
        · simp
  | succ n ih =>
    intro i acc hn
    rw [mAll]
    split
    · simp
    · split
      · simp
      · split
        · rename_i h
          have := ih (mTakeN l i).nx (acc ++ [mTakeN l i]) (by omega)
          rw [List.length_append, List.length_singleton] at this
          omega
        · simp
set_option maxRecDepth 100000 in
set_option maxHeartbeats 8000000 in
theorem jlexTakes_walk (a : Option Addr) (b off c : Nat) (l : List UInt8) (at_ : Int) (w : World) (hb : BytesAt w a b off l) (hlc : l.length ≤ c) (n0 : a = none → c = 0) :
    Calls Try.prog 7 #[.slice a l.length c, .int .i64 at_] w fun e w' => e = .returned (.bool true) ∧ Below w.heap.size w w' := by
  obtain ⟨B, hBB⟩ : ∃ B, w.heap.size = B := ⟨_, rfl⟩
  have hWk := Lib.hid fun W => works06_any W
  by_cases hl : 2000 < l.length
  · have hli : (2000 : Int) < (l.length : Int) := by omega
    clear hb
    rw [hBB]
    go_enter Try.func7, Try.ntmps7
    go_wp2_with fail
    refine (hWk.out w).mono ?_
    rintro r w2 ⟨rfl, hb2⟩
    rw [hBB] at hb2
    replace hb2 := Lib.hid hb2
    go_wp2_with fail
    go_ret
    exact ⟨rfl, hb2.out⟩
  · have hli : ¬ (2000 : Int) < (l.length : Int) := by omega
    have hTk := Lib.hid fun W (h : Below B w W) => take_any (hb.below (hBB ▸ h)) (fun hne => Nat.lt_of_lt_of_le (hb.lt hne) h.size) hlc (by omega) n0 at_
    have hRt := Lib.hid fun W (h : Below B w W) => rtake_any (hb.below (hBB ▸ h)) (fun hne => Nat.lt_of_lt_of_le (hb.lt hne) h.size) hlc (by omega) n0 at_
    have hAl := Lib.hid fun W (h : Below B w W) => all_any (hb.below (hBB ▸ h)) hlc (by omega) n0
    have hRa := Lib.hid fun W (h : Below B w W) => rall_any (hb.below (hBB ▸ h)) hlc (by omega) n0
    obtain ⟨m, hm⟩ : ∃ m, m = mTake l at_ := ⟨_, rfl⟩
    rw [← hm] at hTk hRt
    unfold MT.val at hTk hRt
    obtain ⟨M, hM⟩ : ∃ M, M = mAll l 0 [] := ⟨_, rfl⟩
    rw [← hM] at hAl hRa
    have hML : M.2.length ≤ 2000 := by
      have := mAll_len (l := l) l.length 0 [] (by omega)
      rw [← hM] at this
      simp at this
      omega
    replace hTk := Lib.hid hTk.out
    replace hRt := Lib.hid hRt.out
    rw [hBB]
    clear hb hm hM
    go_enter Try.func7, Try.ntmps7
    go_wp2_with fail
    refine (hTk.out w (Below.refl _ _)).mono ?_
    rintro r w1 ⟨rfl, b1⟩
    rw [hBB] at b1
    obtain ⟨Y5, hY5⟩ : ∃ Y, w1.heap.size = Y := ⟨_, rfl⟩
    have hs1 := b1.size
    have b1a := fun o => b1.alloc (by omega) o
    have k5 := fun C T => Blk.made w1 C T Y5 hY5
    replace b1a := Lib.hid b1a
    replace k5 := Lib.hid k5
    clear b1 hTk
    go_wp2_with fail
    refine (hRt.out _ (b1a.out _)).mono ?_
    rintro r w2 ⟨rfl, b2⟩
    have hs2 := b2.size
    have h5 := (k5.out _ _).kept b2 (by simp; omega)
    have b2' := (b1a.out _).trans (b2.mono (by simp; omega))
    obtain ⟨Y7, hY7⟩ : ∃ Y, w2.heap.size = Y := ⟨_, rfl⟩
    have c5 := fun o j => (h5.kept ((Below.refl w2.heap.size w2).alloc (Nat.le_refl _) o) h5.lt).cell j
    have c7 := fun C T j => (Blk.made w2 C T Y7 hY7).cell j
    have b2a := Lib.hid fun o => b2'.alloc (by simp at hs2; omega) o
    clear b2 b2' b1a k5 hRt h5
    go_wp2_with fail
    refine (hAl.out _ (b2a.out _)).mono ?_
    rintro r w3 ⟨v3, rfl, own3, b3⟩
    have hs3 := b3.size
    have b3' := Lib.hid ((b2a.out _).trans (b3.mono (by simp at hs2 ⊢; omega)))
    replace own3 := Lib.hid own3
    clear c5 c7 b2a hAl b3
    go_wp2_with fail
    refine (hRa.out _ b3'.out).mono ?_
    rintro r w4 ⟨v4, rfl, own4, b4⟩
    have own3' := own3.out.kept b4
    have b4' := Lib.hid (b3'.out.trans (b4.mono (by have := b3'.out.size; omega)))
    obtain ⟨a3, c3, rfl, hc3⟩ := own3'.slice
    obtain ⟨a4, c4, rfl, hc4⟩ := own4.slice
    clear hRa b4 own3 b3'
    replace own3' := Lib.hid own3'
    replace own4 := Lib.hid own4
    have hne : ((M.2.length : Int) != (M.2.length : Int)) = false := by simp
    have hne2 : ((M.1 : Int) != (M.1 : Int)) = false := by simp
    go_wp2_with fail
    go_loopw [60] (fun t wr => ∃ k q : Nat, t = .int .i64 (k : Int) ∧ k ≤ M.2.length ∧ wr = w4.drewN q) (fun t _ => M.2.length - (intOf t).toNat)
    case atStart => exact ⟨0, 0, rfl, Nat.zero_le _, rfl⟩
    case round =>
      obtain ⟨k, q, rfl, hk, hwr⟩ := hrel
      by_cases hlt : k < M.2.length
      · have hne0 : M.2 ≠ [] := by intro e; rw [e] at hlt; simp at hlt
        obtain ⟨g3, p3, e3, h31, h32, h33⟩ := own3'.out.word hne0
        obtain ⟨g4, p4, e4, h41, h42, h43⟩ := own4.out.word hne0
        simp only [Value.slice.injEq, true_and] at e3 e4
        obtain ⟨rfl, rfl⟩ := e3
        obtain ⟨rfl, rfl⟩ := e4
        obtain ⟨x, hx⟩ : ∃ x, M.2[k]? = some x := ⟨M.2[k], List.getElem?_eq_getElem hlt⟩
        obtain ⟨f0, f1, f2, f3, f4⟩ := h33 k x hx
        obtain ⟨e0, e1, e2, e3, e4⟩ := h43 k x hx
        have r0 : ∀ z : Nat, (wr.drewN z).cell? ⟨g3, k * 5, none⟩ = some (.int .i64 (x.k : Int)) := fun z => by rw [hwr]; exact f0
        have r1 : ∀ z : Nat, (wr.drewN z).cell? ⟨g3, k * 5 + 1, none⟩ = some (.int .i64 x.n) := fun z => by rw [hwr]; exact f1
        have r2 : ∀ z : Nat, (wr.drewN z).cell? ⟨g3, k * 5 + 2, none⟩ = some (.string (str x.s)) := fun z => by rw [hwr]; exact f2
        have r3 : ∀ z : Nat, (wr.drewN z).cell? ⟨g3, k * 5 + 3, none⟩ = some (.int .i64 (x.at_ : Int)) := fun z => by rw [hwr]; exact f3
        have r4 : ∀ z : Nat, (wr.drewN z).cell? ⟨g3, k * 5 + 4, none⟩ = some (.int .i64 (x.nx : Int)) := fun z => by rw [hwr]; exact f4
        have s0 : ∀ z : Nat, (wr.drewN z).cell? ⟨g4, k * 5, none⟩ = some (.int .i64 (x.k : Int)) := fun z => by rw [hwr]; exact e0
        have s1 : ∀ z : Nat, (wr.drewN z).cell? ⟨g4, k * 5 + 1, none⟩ = some (.int .i64 x.n) := fun z => by rw [hwr]; exact e1
        have s2 : ∀ z : Nat, (wr.drewN z).cell? ⟨g4, k * 5 + 2, none⟩ = some (.string (str x.s)) := fun z => by rw [hwr]; exact e2
        have s3 : ∀ z : Nat, (wr.drewN z).cell? ⟨g4, k * 5 + 3, none⟩ = some (.int .i64 (x.at_ : Int)) := fun z => by rw [hwr]; exact e3
        have s4 : ∀ z : Nat, (wr.drewN z).cell? ⟨g4, k * 5 + 4, none⟩ = some (.int .i64 (x.nx : Int)) := fun z => by rw [hwr]; exact e4
        have hlti : (k : Int) < (M.2.length : Int) := by omega
        replace hwr := Lib.hid hwr
        replace hx := Lib.hid hx
        replace hne0 := Lib.hid hne0
        clear f0 f1 f2 f3 f4 e0 e1 e2 e3 e4 h33 h43 hk
        go_wp2_with fail
        go_quiet (fail)
        go_wp2_with fail
        go_roundw
        case rel => exact ⟨k + 1, _, rfl, by omega, by rw [hwr.out]; exact drew2 _ _ _⟩
        case measure => simp [intOf]; omega
      · obtain rfl : k = M.2.length := by omega
        clear hk
        go_wp2_with fail
        refine (hWk.out _).mono ?_
        rintro r w5 ⟨rfl, b5⟩
        have b5' := Lib.hid ((below_drewN b4'.out q).trans (b5.mono (by have := (below_drewN b4'.out q).size; omega)))
        clear b5
        go_wp2_with fail
        go_ret
        exact ⟨rfl, b5'.out⟩

end Go.Proofs.Ytmembanbemljoaa
