/- Trees as pure cells. -/
import Derived.Test.YtmmffaelkoinlaaGreatDoorTy
import Derived.Test.YtmmffaelkoinlaaGreatDoorJ0
namespace Go.Proofs.YtmmffaelkoinlaaGreatDoor
open Go.RowKit
set_option linter.unusedVariables false
set_option linter.unusedSimpArgs false

/-- A text, as an element of a row. -/
def sPV (s : List UInt8) : List PV := [.v (.string (str s))]
theorem sPV_eq (s : List UInt8) : sPV s = [.v (.string (str s))] := rfl
theorem str_dl (l : List UInt8) : (str l).data.toList = l := by simp [str]
mutual
def JT.cells : JT → List PV
  | .mk k n s ks xs => [.v (.int .i64 k), .v (.int .i64 n), .v (.string (str s)), .sl 5 (JT.cellsL xs), .sl 1 (ks.map sPV)]
def JT.cellsL : List JT → List (List PV)
  | [] => []
  | x :: xs => x.cells :: JT.cellsL xs
end
theorem cellsL_map : ∀ (xs : List JT), JT.cellsL xs = xs.map JT.cells
  | [] => by simp [JT.cellsL]
  | x :: xs => by simp [JT.cellsL, cellsL_map xs]
def JT.av (t : JT) : AV := .agg (t.cells.map .c)
theorem JT.av_eq (t : JT) : t.av = .agg (t.cells.map .c) := rfl
mutual
def tdeep : JT → Nat
  | .mk k n s ks xs => if k = 5 ∨ k = 6 then tdeeps 1 xs else 0
def tdeeps : Nat → List JT → Nat
  | n, [] => n
  | n, x :: xs => tdeeps (max n (1 + tdeep x)) xs
end

theorem cells_mk (k n : Int) (s : List UInt8) (ks : List (List UInt8)) (xs : List JT) : (JT.mk k n s ks xs).cells = [.v (.int .i64 k), .v (.int .i64 n), .v (.string (str s)), .sl 5 (xs.map JT.cells), .sl 1 (ks.map sPV)] := by simp [JT.cells, cellsL_map]
theorem len_cells (t : JT) : t.cells.length = 5 := by cases t; simp [JT.cells]
theorem take_cells (t : JT) : t.cells.take 5 = t.cells := List.take_of_length_le (by rw [len_cells]; exact Nat.le_refl _)
theorem take_cellsC (t : JT) : (t.cells.map AV.c).take 5 = t.cells.map .c := List.take_of_length_le (by rw [List.length_map, len_cells]; exact Nat.le_refl _)
theorem tdeeps_snoc : ∀ (xs : List JT) (x : JT) (n : Nat), tdeeps n (xs ++ [x]) = max (tdeeps n xs) (1 + tdeep x)
  | [], x, n => by simp [tdeeps]
  | y :: xs, x, n => by simp only [List.cons_append, tdeeps]; exact tdeeps_snoc xs x _
theorem tdeeps_le : ∀ (xs : List JT) (n : Nat), n ≤ tdeeps n xs ∧ ∀ x ∈ xs, tdeep x + 1 ≤ tdeeps n xs
  | [], n => ⟨Nat.le_refl _, by simp⟩
  | y :: xs, n => by
    obtain ⟨h1, h2⟩ := tdeeps_le xs (max n (1 + tdeep y))
    simp only [tdeeps]
    refine ⟨by omega, fun x hx => ?_⟩
    rcases List.mem_cons.1 hx with rfl | hx
    · omega
    · exact h2 x hx
theorem tdeeps_mono (xs ys : List JT) (n : Nat) : tdeeps n xs ≤ tdeeps n (xs ++ ys) := by
  induction xs generalizing n with
  | nil => exact (tdeeps_le ys n).1
  | cons x xs ih => simp only [List.cons_append, tdeeps]; exact ih _
end Go.Proofs.YtmmffaelkoinlaaGreatDoor
