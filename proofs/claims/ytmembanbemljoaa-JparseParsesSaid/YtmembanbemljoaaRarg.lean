/- The reference's Take, wherever; what an index into a slice of words reads. -/
import Derived.Test.YtmembanbemljoaaRtake
import Derived.Test.YtmembanbemljoaaAllr
import Derived.Test.YtmembanbemljoaaWorks
namespace Go.Proofs.Ytmembanbemljoaa
open Go.RowKit
set_option linter.unusedVariables false
set_option linter.unusedSimpArgs false

variable {w : World} {a : Option Addr} {b off c : Nat} {l : List UInt8}
set_option maxRecDepth 100000 in
set_option maxHeartbeats 2000000 in
theorem rtake_arg (at_ : Int) (h : at_ < 0 ∨ (l.length : Int) < at_) :
    Calls Try.prog 25 #[.slice a l.length c, .int .i64 at_] w fun r w' => r = .returned (.tuple #[(mTake l at_).val, .int .i64 ((mTake l at_).e : Int)]) ∧ Below w.heap.size w w' := by
  unfold mTake
  rw [if_pos h]
  obtain ⟨H, hH⟩ : ∃ H, w.heap.size = H := ⟨_, rfl⟩
  have hz := fun C T => Blk.made w C T H hH
  have hB := fun o => (Below.refl H w).alloc (by omega) o
  have ht : at_ < 0 ∨ (¬ at_ < 0 ∧ (l.length : Int) < at_) := by omega
  rw [hH]
  replace hz := Lib.hid hz
  replace hB := Lib.hid hB
  clear h
  rcases ht with ht | ⟨ht, ht2⟩
  all_goals
    go_enter Try.func25, Try.ntmps25
    go_wp2_with fail
    refine bodyPost_ret (rtake_ret _ (by rfl) (by rfl) (fun j => (hz.out _ _).cell j)) rfl ?_
    exact ⟨rfl, hB.out _⟩
theorem rtake_any (hb : BytesAt w a b off l) (hap : l ≠ [] → b < w.heap.size) (hlen : l.length ≤ c) (hbig : l.length ≤ 1000000) (hnil : a = none → c = 0) (i : Int) :
    Calls Try.prog 25 #[.slice a l.length c, .int .i64 i] w fun r w' => r = .returned (.tuple #[(mTake l i).val, .int .i64 ((mTake l i).e : Int)]) ∧ Below w.heap.size w w' := by
  by_cases h : i < 0 ∨ (l.length : Int) < i
  · exact rtake_arg i h
  · have e : mTake l i = mTakeN l i.toNat := by unfold mTake; rw [if_neg h]
    have := rtake_in2 hb hap hlen hbig hnil i.toNat (by omega)
    rw [show ((i.toNat : Nat) : Int) = i from by omega] at this
    rw [e]
    exact this
theorem flat_at (ms : List MT) : ∀ (i j : Nat), j < 5 → (ms.flatMap MT.cells)[i * 5 + j]? = (ms[i]?).bind fun m => m.cells[j]? := by
  induction ms with
  | nil => intro i j _; simp
  | cons m ms ih =>
    intro i j hj
    rw [List.flatMap_cons]
    have hl : m.cells.length = 5 := rfl
    cases i with
    | zero =>
      rw [Nat.zero_mul, Nat.zero_add, List.getElem?_append_left (by omega)]
      simp
    | succ i =>
      rw [List.getElem?_append_right (by omega), hl, show (i + 1) * 5 + j - 5 = i * 5 + j from by omega, ih i j hj]
      simp
/-- A word of a slice of words, cell by cell. -/
theorem OwnW.word {e : TypeId} {W : World} {base : Nat} {v : Value} {ms : List MT} (h : OwnW e W base v ms) (hne : ms ≠ []) :
    ∃ g cp, v = .slice (some ⟨g, 0, none⟩) ms.length cp ∧ ms.length ≤ cp ∧ g < W.heap.size ∧ ∀ i (m : MT), ms[i]? = some m →
      W.cell? ⟨g, i * 5, none⟩ = some (.int .i64 (m.k : Int)) ∧ W.cell? ⟨g, i * 5 + 1, none⟩ = some (.int .i64 m.n) ∧ W.cell? ⟨g, i * 5 + 2, none⟩ = some (.string (str m.s)) ∧ W.cell? ⟨g, i * 5 + 3, none⟩ = some (.int .i64 (m.at_ : Int)) ∧ W.cell? ⟨g, i * 5 + 4, none⟩ = some (.int .i64 (m.nx : Int)) := by
  obtain ⟨g, cp, rfl, h1, _, h2, hc⟩ := h.read hne
  refine ⟨g, cp, rfl, h1, h2, fun i m hm => ?_⟩
  have hlt : i < ms.length := by
    rcases Nat.lt_or_ge i ms.length with h' | h'
    · exact h'
    · rw [List.getElem?_eq_none h'] at hm; simp at hm
  have q : ∀ j, j < 5 → W.cell? ⟨g, i * 5 + j, none⟩ = m.cells[j]? := by
    intro j hj
    rw [hc (i * 5 + j) (by omega), flat_at ms i j hj, hm]
    rfl
  exact ⟨q 0 (by decide), q 1 (by decide), q 2 (by decide), q 3 (by decide), q 4 (by decide)⟩

end Go.Proofs.Ytmembanbemljoaa
