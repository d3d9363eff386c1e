/- The types as a table, and which functions can be entered (written by gen_ty.py out of the translation). -/
import Derived.Test.YthkofkaocipomaaGreatDoorProg
import Derived.Test.YthkofkaocipomaaGreatDoorPkBuildBuildsXAbB
namespace Go.Proofs.YthkofkaocipomaaGreatDoor
open Go.RowKit
set_option linter.unusedVariables false

theorem q75 : tyA Tryz.prog 2 = some ⟨false, 1, 8, [.int .i64 0], 0, [], 13, []⟩ := by kernel_rfl
theorem q78 : tyA Tryz.prog 3 = some ⟨false, 1, 8, [.int .i64 0], 0, [], 13, []⟩ := by kernel_rfl
theorem j1b : tyA Tryz.prog 4 = some ⟨false, 1, 1, [.bool false], 0, [], 4, []⟩ := by kernel_rfl
theorem j1e : tyA Tryz.prog 5 = some ⟨false, 1, 1, [.int .u8 0], 0, [], 14, []⟩ := by kernel_rfl
theorem j1i : tyA Tryz.prog 6 = some ⟨false, 1, 1, [.int .u8 0], 0, [], 14, []⟩ := by kernel_rfl
theorem j1n : tyA Tryz.prog 7 = some ⟨true, 4, 24, [.int .i64 0, .int .i64 0, .bool false, .int .u8 0], 0, [(0, 2), (1, 3), (2, 4), (3, 6)], 3, [(0, 1), (1, 1), (2, 1), (3, 1)]⟩ := by kernel_rfl
theorem j1q : tyA Tryz.prog 8 = some ⟨true, 4, 24, [.int .i64 0, .int .i64 0, .bool false, .int .u8 0], 0, [(0, 2), (1, 3), (2, 4), (3, 6)], 3, [(0, 1), (1, 1), (2, 1), (3, 1)]⟩ := by kernel_rfl
theorem q7i : tyA Tryz.prog 9 = some ⟨false, 1, 16, [.string ⟨#[]⟩], 0, [], 2, []⟩ := by kernel_rfl
theorem q9a : tyA Tryz.prog 10 = some ⟨false, 1, 16, [.string ⟨#[]⟩], 0, [], 2, []⟩ := by kernel_rfl
theorem q9f : tyA Tryz.prog 11 = some ⟨false, 1, 16, [.string ⟨#[]⟩], 0, [], 2, []⟩ := by kernel_rfl
theorem q9g : tyA Tryz.prog 12 = some ⟨false, 1, 8, [.int .u64 0], 0, [], 17, []⟩ := by kernel_rfl
theorem q9l : tyA Tryz.prog 13 = some ⟨true, 2, 24, [.string ⟨#[]⟩, .int .u64 0], 0, [(0, 9), (1, 12)], 3, [(0, 1), (1, 1)]⟩ := by kernel_rfl
theorem q9p : tyA Tryz.prog 14 = some ⟨true, 2, 24, [.string ⟨#[]⟩, .int .u64 0], 0, [(0, 9), (1, 12)], 3, [(0, 1), (1, 1)]⟩ := by kernel_rfl
theorem q9r : tyA Tryz.prog 15 = some ⟨false, 1, 8, [.pointer none], 352, [], 7, []⟩ := by kernel_rfl
theorem q9s : tyA Tryz.prog 16 = some ⟨false, 1, 8, [.pointer none], 355, [], 7, []⟩ := by kernel_rfl
theorem q9t : tyA Tryz.prog 17 = some ⟨false, 1, 8, [.pointer none], 363, [], 7, []⟩ := by kernel_rfl
theorem q9y : tyA Tryz.prog 18 = some ⟨true, 1, 8, [.pointer none], 0, [(0, 17)], 3, [(0, 1)]⟩ := by kernel_rfl
theorem q93 : tyA Tryz.prog 19 = some ⟨true, 1, 8, [.pointer none], 0, [(0, 17)], 3, [(0, 1)]⟩ := by kernel_rfl
theorem q98 : tyA Tryz.prog 21 = some ⟨false, 1, 4, [.int .i32 0], 0, [], 12, []⟩ := by kernel_rfl
theorem q76 : tyA Tryz.prog 22 = some ⟨false, 1, 24, [.slice none 0 0], 25, [], 1, []⟩ := by kernel_rfl
theorem q77 : tyA Tryz.prog 23 = some ⟨false, 1, 24, [.slice none 0 0], 9, [], 1, []⟩ := by kernel_rfl
theorem j0e : tyA Tryz.prog 24 = some ⟨true, 5, 80, [.int .i64 0, .int .i64 0, .string ⟨#[]⟩, .slice none 0 0, .slice none 0 0], 0, [(0, 3), (1, 2), (2, 9), (3, 22), (4, 23)], 3, [(0, 1), (1, 1), (2, 1), (3, 1), (4, 1)]⟩ := by kernel_rfl
theorem q7h : tyA Tryz.prog 25 = some ⟨true, 5, 80, [.int .i64 0, .int .i64 0, .string ⟨#[]⟩, .slice none 0 0, .slice none 0 0], 0, [(0, 3), (1, 2), (2, 9), (3, 22), (4, 23)], 3, [(0, 1), (1, 1), (2, 1), (3, 1), (4, 1)]⟩ := by kernel_rfl
theorem j0j : tyA Tryz.prog 28 = some ⟨false, 1, 24, [.slice none 0 0], 40, [], 1, []⟩ := by kernel_rfl
theorem j0k : tyA Tryz.prog 29 = some ⟨true, 2, 32, [.slice none 0 0, .int .i64 0], 0, [(0, 28), (1, 3)], 3, [(0, 1), (1, 1)]⟩ := by kernel_rfl
theorem j0m : tyA Tryz.prog 30 = some ⟨true, 2, 32, [.slice none 0 0, .int .i64 0], 0, [(0, 28), (1, 3)], 3, [(0, 1), (1, 1)]⟩ := by kernel_rfl
theorem j0n : tyA Tryz.prog 31 = some ⟨false, 1, 8, [.int .i64 0], 0, [], 13, []⟩ := by kernel_rfl
theorem j08 : tyA Tryz.prog 37 = some ⟨false, 1, 24, [.slice none 0 0], 72, [], 1, []⟩ := by kernel_rfl
theorem j09 : tyA Tryz.prog 38 = some ⟨false, 1, 24, [.slice none 0 0], 3, [], 1, []⟩ := by kernel_rfl
theorem j1a : tyA Tryz.prog 39 = some ⟨true, 10, 160, [.int .i64 0, .string ⟨#[]⟩, .slice none 0 0, .slice none 0 0, .slice none 0 0, .bool false, .string ⟨#[]⟩, .int .i64 0, .int .i64 0, .slice none 0 0], 0, [(0, 3), (1, 9), (2, 23), (3, 37), (4, 23), (5, 4), (6, 9), (7, 3), (8, 3), (9, 38)], 3, [(0, 1), (1, 1), (2, 1), (3, 1), (4, 1), (5, 1), (6, 1), (7, 1), (8, 1), (9, 1)]⟩ := by kernel_rfl
theorem j1c : tyA Tryz.prog 40 = some ⟨true, 10, 160, [.int .i64 0, .string ⟨#[]⟩, .slice none 0 0, .slice none 0 0, .slice none 0 0, .bool false, .string ⟨#[]⟩, .int .i64 0, .int .i64 0, .slice none 0 0], 0, [(0, 3), (1, 9), (2, 23), (3, 37), (4, 23), (5, 4), (6, 9), (7, 3), (8, 3), (9, 38)], 3, [(0, 1), (1, 1), (2, 1), (3, 1), (4, 1), (5, 1), (6, 1), (7, 1), (8, 1), (9, 1)]⟩ := by kernel_rfl
theorem j1d : tyA Tryz.prog 47 = some ⟨false, 1, 8, [.pointer none], 133, [], 7, []⟩ := by kernel_rfl
theorem j1f : tyA Tryz.prog 50 = some ⟨false, 1, 24, [.slice none 0 0], 5, [], 1, []⟩ := by kernel_rfl
theorem j1g : tyA Tryz.prog 58 = some ⟨false, 1, 8, [.pointer none], 60, [], 7, []⟩ := by kernel_rfl
theorem j1h : tyA Tryz.prog 59 = some ⟨true, 3, 40, [.slice none 0 0, .int .i64 0, .int .i64 0], 0, [(0, 30), (2, 31)], 3, [(0, 2), (2, 1)]⟩ := by kernel_rfl
theorem j1j : tyA Tryz.prog 60 = some ⟨true, 3, 40, [.slice none 0 0, .int .i64 0, .int .i64 0], 0, [(0, 30), (2, 31)], 3, [(0, 2), (2, 1)]⟩ := by kernel_rfl
theorem j1k : tyA Tryz.prog 64 = some ⟨false, 1, 8, [.pointer none], 66, [], 7, []⟩ := by kernel_rfl
theorem j1l : tyA Tryz.prog 65 = some ⟨true, 2, 32, [.slice none 0 0, .int .i64 0], 0, [(0, 30)], 3, [(0, 2)]⟩ := by kernel_rfl
theorem j1m : tyA Tryz.prog 66 = some ⟨true, 2, 32, [.slice none 0 0, .int .i64 0], 0, [(0, 30)], 3, [(0, 2)]⟩ := by kernel_rfl
theorem j1o : tyA Tryz.prog 71 = some ⟨true, 9, 136, [.string ⟨#[]⟩, .slice none 0 0, .int .i64 0, .bool false, .int .i64 0, .int .i64 0, .string ⟨#[]⟩, .slice none 0 0, .slice none 0 0], 0, [(0, 9), (1, 23), (2, 3), (3, 4), (4, 25)], 3, [(0, 1), (1, 1), (2, 1), (3, 1), (4, 5)]⟩ := by kernel_rfl
theorem j1p : tyA Tryz.prog 72 = some ⟨true, 9, 136, [.string ⟨#[]⟩, .slice none 0 0, .int .i64 0, .bool false, .int .i64 0, .int .i64 0, .string ⟨#[]⟩, .slice none 0 0, .slice none 0 0], 0, [(0, 9), (1, 23), (2, 3), (3, 4), (4, 25)], 3, [(0, 1), (1, 1), (2, 1), (3, 1), (4, 5)]⟩ := by kernel_rfl
theorem j1r : tyA Tryz.prog 88 = some ⟨false, 1, 8, [.int .u64 0], 0, [], 17, []⟩ := by kernel_rfl
theorem j1s : tyA Tryz.prog 89 = some ⟨false, 1, 24, [.slice none 0 0], 91, [], 1, []⟩ := by kernel_rfl
theorem j1t : tyA Tryz.prog 90 = some ⟨true, 6, 96, [.int .i64 0, .int .i64 0, .int .u64 0, .slice none 0 0, .slice none 0 0, .slice none 0 0], 0, [(0, 3), (1, 2), (2, 88), (3, 50), (4, 89), (5, 23)], 3, [(0, 1), (1, 1), (2, 1), (3, 1), (4, 1), (5, 1)]⟩ := by kernel_rfl
theorem j1u : tyA Tryz.prog 91 = some ⟨true, 6, 96, [.int .i64 0, .int .i64 0, .int .u64 0, .slice none 0 0, .slice none 0 0, .slice none 0 0], 0, [(0, 3), (1, 2), (2, 88), (3, 50), (4, 89), (5, 23)], 3, [(0, 1), (1, 1), (2, 1), (3, 1), (4, 1), (5, 1)]⟩ := by kernel_rfl
theorem j1v : tyA Tryz.prog 99 = some ⟨false, 1, 8, [.pointer none], 103, [], 7, []⟩ := by kernel_rfl
theorem q9b : tyA Tryz.prog 100 = some ⟨true, 5, 48, [.int .i64 0, .int .i64 0, .string ⟨#[]⟩, .int .i64 0, .int .i64 0], 0, [(0, 3), (1, 2), (2, 9), (3, 3), (4, 3)], 3, [(0, 1), (1, 1), (2, 1), (3, 1), (4, 1)]⟩ := by kernel_rfl
theorem q9c : tyA Tryz.prog 101 = some ⟨true, 5, 48, [.int .i64 0, .int .i64 0, .string ⟨#[]⟩, .int .i64 0, .int .i64 0], 0, [(0, 3), (1, 2), (2, 9), (3, 3), (4, 3)], 3, [(0, 1), (1, 1), (2, 1), (3, 1), (4, 1)]⟩ := by kernel_rfl
theorem q9d : tyA Tryz.prog 102 = some ⟨true, 8, 88, [.slice none 0 0, .int .i64 0, .int .i64 0, .int .i64 0, .int .i64 0, .string ⟨#[]⟩, .int .i64 0, .int .i64 0], 0, [(0, 50), (1, 3), (2, 31), (3, 101)], 3, [(0, 1), (1, 1), (2, 1), (3, 5)]⟩ := by kernel_rfl
theorem q9e : tyA Tryz.prog 103 = some ⟨true, 8, 88, [.slice none 0 0, .int .i64 0, .int .i64 0, .int .i64 0, .int .i64 0, .string ⟨#[]⟩, .int .i64 0, .int .i64 0], 0, [(0, 50), (1, 3), (2, 31), (3, 101)], 3, [(0, 1), (1, 1), (2, 1), (3, 5)]⟩ := by kernel_rfl
theorem q9h : tyA Tryz.prog 121 = some ⟨false, 1, 8, [.pointer none], 123, [], 7, []⟩ := by kernel_rfl
theorem q9i : tyA Tryz.prog 122 = some ⟨true, 3, 40, [.slice none 0 0, .int .i64 0, .int .i64 0], 0, [(0, 30), (2, 3)], 3, [(0, 2), (2, 1)]⟩ := by kernel_rfl
theorem q9j : tyA Tryz.prog 123 = some ⟨true, 3, 40, [.slice none 0 0, .int .i64 0, .int .i64 0], 0, [(0, 30), (2, 3)], 3, [(0, 2), (2, 1)]⟩ := by kernel_rfl
theorem q9k : tyA Tryz.prog 128 = some ⟨false, 1, 8, [.pointer none], 175, [], 7, []⟩ := by kernel_rfl
theorem q9m : tyA Tryz.prog 132 = some ⟨true, 5, 72, [.slice none 0 0, .int .i64 0, .slice none 0 0, .int .i64 0, .pointer none], 0, [(0, 30), (2, 30), (4, 128)], 3, [(0, 2), (2, 2), (4, 1)]⟩ := by kernel_rfl
theorem q9n : tyA Tryz.prog 133 = some ⟨true, 5, 72, [.slice none 0 0, .int .i64 0, .slice none 0 0, .int .i64 0, .pointer none], 0, [(0, 30), (2, 30), (4, 128)], 3, [(0, 2), (2, 2), (4, 1)]⟩ := by kernel_rfl
theorem q9o : tyA Tryz.prog 137 = some ⟨false, 1, 24, [.slice none 0 0], 141, [], 1, []⟩ := by kernel_rfl
theorem q9q : tyA Tryz.prog 141 = some ⟨true, 5, 48, [.int .i64 0, .int .i64 0, .string ⟨#[]⟩, .int .i64 0, .int .i64 0], 0, [(0, 3), (1, 2), (2, 9), (3, 3), (4, 3)], 3, [(0, 1), (1, 1), (2, 1), (3, 1), (4, 1)]⟩ := by kernel_rfl
theorem q9u : tyA Tryz.prog 170 = some ⟨true, 15, 240, [.string ⟨#[]⟩, .string ⟨#[]⟩, .string ⟨#[]⟩, .string ⟨#[]⟩, .string ⟨#[]⟩, .string ⟨#[]⟩, .string ⟨#[]⟩, .string ⟨#[]⟩, .string ⟨#[]⟩, .string ⟨#[]⟩, .string ⟨#[]⟩, .string ⟨#[]⟩, .string ⟨#[]⟩, .string ⟨#[]⟩, .string ⟨#[]⟩], 9, [(15, 9)], 6, []⟩ := by kernel_rfl
theorem q9v : tyA Tryz.prog 176 = some ⟨true, 2, 16, [.int .i64 0, .int .i64 0], 3, [(2, 3)], 6, []⟩ := by kernel_rfl
theorem q9w : tyA Tryz.prog 177 = some ⟨true, 2, 16, [.int .i64 0, .int .i64 0], 3, [(2, 3)], 6, []⟩ := by kernel_rfl
theorem q9x : tyA Tryz.prog 179 = some ⟨false, 1, 8, [.pointer none], 183, [], 7, []⟩ := by kernel_rfl
theorem q9z : tyA Tryz.prog 180 = some ⟨true, 3, 40, [.slice none 0 0, .int .i64 0, .int .i64 0], 0, [(0, 50), (1, 3), (2, 31)], 3, [(0, 1), (1, 1), (2, 1)]⟩ := by kernel_rfl
theorem q90 : tyA Tryz.prog 181 = some ⟨true, 3, 40, [.slice none 0 0, .int .i64 0, .int .i64 0], 0, [(0, 50), (1, 3), (2, 31)], 3, [(0, 1), (1, 1), (2, 1)]⟩ := by kernel_rfl
theorem q91 : tyA Tryz.prog 182 = some ⟨true, 4, 48, [.pointer none, .slice none 0 0, .int .i64 0, .int .i64 0], 0, [(0, 47), (1, 181)], 3, [(0, 1), (1, 3)]⟩ := by kernel_rfl
theorem q92 : tyA Tryz.prog 183 = some ⟨true, 4, 48, [.pointer none, .slice none 0 0, .int .i64 0, .int .i64 0], 0, [(0, 47), (1, 181)], 3, [(0, 1), (1, 3)]⟩ := by kernel_rfl
theorem q94 : tyA Tryz.prog 191 = some ⟨false, 1, 8, [.pointer none], 193, [], 7, []⟩ := by kernel_rfl
theorem q95 : tyA Tryz.prog 192 = some ⟨true, 4, 64, [.slice none 0 0, .int .i64 0, .int .i64 0, .slice none 0 0], 0, [(0, 50), (1, 3), (2, 31), (3, 50)], 3, [(0, 1), (1, 1), (2, 1), (3, 1)]⟩ := by kernel_rfl
theorem q96 : tyA Tryz.prog 193 = some ⟨true, 4, 64, [.slice none 0 0, .int .i64 0, .int .i64 0, .slice none 0 0], 0, [(0, 50), (1, 3), (2, 31), (3, 50)], 3, [(0, 1), (1, 1), (2, 1), (3, 1)]⟩ := by kernel_rfl
theorem q97 : tyA Tryz.prog 209 = some ⟨false, 1, 8, [.int .u64 0], 0, [], 17, []⟩ := by kernel_rfl
theorem q99 : tyA Tryz.prog 213 = some ⟨false, 1, 8, [.pointer none], 40, [], 7, []⟩ := by kernel_rfl
theorem j0a : tyA Tryz.prog 216 = some ⟨false, 1, 8, [.pointer none], 72, [], 7, []⟩ := by kernel_rfl
theorem j0b : tyA Tryz.prog 229 = some ⟨false, 1, 8, [.pointer none], 231, [], 7, []⟩ := by kernel_rfl
theorem j0c : tyA Tryz.prog 230 = some ⟨true, 3, 40, [.slice none 0 0, .int .i64 0, .int .i64 0], 0, [(0, 30), (2, 3)], 3, [(0, 2), (2, 1)]⟩ := by kernel_rfl
theorem j0d : tyA Tryz.prog 231 = some ⟨true, 3, 40, [.slice none 0 0, .int .i64 0, .int .i64 0], 0, [(0, 30), (2, 3)], 3, [(0, 2), (2, 1)]⟩ := by kernel_rfl
theorem j0f : tyA Tryz.prog 243 = some ⟨true, 3, 32, [.string ⟨#[]⟩, .int .i64 0, .int .i64 0], 0, [(0, 9), (1, 3), (2, 2)], 3, [(0, 1), (1, 1), (2, 1)]⟩ := by kernel_rfl
theorem j0g : tyA Tryz.prog 244 = some ⟨true, 3, 32, [.string ⟨#[]⟩, .int .i64 0, .int .i64 0], 0, [(0, 9), (1, 3), (2, 2)], 3, [(0, 1), (1, 1), (2, 1)]⟩ := by kernel_rfl
theorem j0h : tyA Tryz.prog 245 = some ⟨true, 9, 96, [.string ⟨#[]⟩, .int .i64 0, .int .i64 0, .string ⟨#[]⟩, .int .i64 0, .int .i64 0, .string ⟨#[]⟩, .int .i64 0, .int .i64 0], 244, [(3, 244)], 6, []⟩ := by kernel_rfl
theorem j0i : tyA Tryz.prog 254 = some ⟨false, 1, 4, [.int .u32 0], 0, [], 16, []⟩ := by kernel_rfl
theorem j0l : tyA Tryz.prog 296 = some ⟨false, 1, 24, [.slice none 0 0], 4, [], 1, []⟩ := by kernel_rfl
theorem j0o : tyA Tryz.prog 316 = some ⟨false, 1, 8, [.int .i64 0], 0, [], 13, []⟩ := by kernel_rfl
theorem j0p : tyA Tryz.prog 325 = some ⟨false, 1, 24, [.slice none 0 0], 2, [], 1, []⟩ := by kernel_rfl
theorem j0q : tyA Tryz.prog 326 = some ⟨false, 1, 24, [.slice none 0 0], 50, [], 1, []⟩ := by kernel_rfl
theorem j0r : tyA Tryz.prog 332 = some ⟨false, 1, 8, [.pointer none], 334, [], 7, []⟩ := by kernel_rfl
theorem j0s : tyA Tryz.prog 333 = some ⟨true, 5, 40, [.int .u64 0, .int .u64 0, .int .i64 0, .int .u8 0, .int .i64 0], 0, [(0, 88), (1, 209), (2, 3), (3, 5), (4, 3)], 3, [(0, 1), (1, 1), (2, 1), (3, 1), (4, 1)]⟩ := by kernel_rfl
theorem j0t : tyA Tryz.prog 334 = some ⟨true, 5, 40, [.int .u64 0, .int .u64 0, .int .i64 0, .int .u8 0, .int .i64 0], 0, [(0, 88), (1, 209), (2, 3), (3, 5), (4, 3)], 3, [(0, 1), (1, 1), (2, 1), (3, 1), (4, 1)]⟩ := by kernel_rfl
theorem j0u : tyA Tryz.prog 340 = some ⟨false, 1, 8, [.int .u64 0], 0, [], 17, []⟩ := by kernel_rfl
theorem j0v : tyA Tryz.prog 344 = some ⟨false, 1, 8, [.pointer none], 3, [], 7, []⟩ := by kernel_rfl
theorem j0w : tyA Tryz.prog 349 = some ⟨false, 1, 8, [.pointer none], 340, [], 7, []⟩ := by kernel_rfl
theorem j0x : tyA Tryz.prog 351 = some ⟨true, 4, 40, [.pointer none, .pointer none, .pointer none, .string ⟨#[]⟩], 0, [(0, 17), (1, 17), (2, 17), (3, 9)], 3, [(0, 1), (1, 1), (2, 1), (3, 1)]⟩ := by kernel_rfl
theorem j0y : tyA Tryz.prog 352 = some ⟨true, 4, 40, [.pointer none, .pointer none, .pointer none, .string ⟨#[]⟩], 0, [(0, 17), (1, 17), (2, 17), (3, 9)], 3, [(0, 1), (1, 1), (2, 1), (3, 1)]⟩ := by kernel_rfl
theorem j0z : tyA Tryz.prog 353 = some ⟨true, 0, 0, [], 16, [(0, 16)], 6, []⟩ := by kernel_rfl
theorem j00 : tyA Tryz.prog 354 = some ⟨true, 0, 0, [], 0, [(0, 353)], 3, [(0, 0)]⟩ := by kernel_rfl
theorem j01 : tyA Tryz.prog 355 = some ⟨true, 0, 0, [], 0, [(0, 353)], 3, [(0, 0)]⟩ := by kernel_rfl
theorem j02 : tyA Tryz.prog 356 = some ⟨false, 1, 1, [.int .u8 0], 0, [], 14, []⟩ := by kernel_rfl
theorem j03 : tyA Tryz.prog 357 = some ⟨false, 1, 1, [.int .u8 0], 0, [], 14, []⟩ := by kernel_rfl
theorem j04 : tyA Tryz.prog 359 = some ⟨false, 1, 8, [.pointer none], 5, [], 7, []⟩ := by kernel_rfl
theorem j05 : tyA Tryz.prog 360 = some ⟨false, 1, 4, [.int .i32 0], 0, [], 12, []⟩ := by kernel_rfl
theorem j06 : tyA Tryz.prog 361 = some ⟨false, 1, 4, [.int .i32 0], 0, [], 12, []⟩ := by kernel_rfl
theorem j07 : tyA Tryz.prog 365 = some ⟨false, 1, 8, [.pointer none], 0, [], 8, []⟩ := by kernel_rfl
theorem ent_3 : q0n Tryz.prog 3 := q0r Tryz.func3 (by kernel_rfl) (by kernel_rfl)
theorem ent_11 : q0n Tryz.prog 11 := q0r Tryz.func11 (by kernel_rfl) (by kernel_rfl)
theorem ent_13 : q0n Tryz.prog 13 := q0r Tryz.func13 (by kernel_rfl) (by kernel_rfl)
theorem ent_14 : q0n Tryz.prog 14 := q0r Tryz.func14 (by kernel_rfl) (by kernel_rfl)
theorem ent_15 : q0n Tryz.prog 15 := q0r Tryz.func15 (by kernel_rfl) (by kernel_rfl)
theorem ent_17 : q0n Tryz.prog 17 := q0r Tryz.func17 (by kernel_rfl) (by kernel_rfl)
theorem ent_18 : q0n Tryz.prog 18 := q0r Tryz.func18 (by kernel_rfl) (by kernel_rfl)
theorem ent_32 : q0n Tryz.prog 32 := q0r Tryz.func32 (by kernel_rfl) (by kernel_rfl)
theorem ent_34 : q0n Tryz.prog 34 := q0r Tryz.func34 (by kernel_rfl) (by kernel_rfl)
theorem j26 : q0n Tryz.prog 35 := q0r Tryz.func35 (by kernel_rfl) (by kernel_rfl)
theorem ent_36 : q0n Tryz.prog 36 := q0r Tryz.func36 (by kernel_rfl) (by kernel_rfl)
theorem ent_37 : q0n Tryz.prog 37 := q0r Tryz.func37 (by kernel_rfl) (by kernel_rfl)
theorem ent_38 : q0n Tryz.prog 38 := q0r Tryz.func38 (by kernel_rfl) (by kernel_rfl)
theorem q37 : q0n Tryz.prog 39 := q0r Tryz.func39 (by kernel_rfl) (by kernel_rfl)
theorem ent_40 : q0n Tryz.prog 40 := q0r Tryz.func40 (by kernel_rfl) (by kernel_rfl)
theorem ent_41 : q0n Tryz.prog 41 := q0r Tryz.func41 (by kernel_rfl) (by kernel_rfl)
theorem ent_49 : q0n Tryz.prog 49 := q0r Tryz.func49 (by kernel_rfl) (by kernel_rfl)
theorem ent_50 : q0n Tryz.prog 50 := q0r Tryz.func50 (by kernel_rfl) (by kernel_rfl)
theorem ent_51 : q0n Tryz.prog 51 := q0r Tryz.func51 (by kernel_rfl) (by kernel_rfl)
theorem j4g : q0n Tryz.prog 52 := q0r Tryz.func52 (by kernel_rfl) (by kernel_rfl)
theorem ent_54 : q0n Tryz.prog 54 := q0r Tryz.func54 (by kernel_rfl) (by kernel_rfl)
theorem ent_55 : q0n Tryz.prog 55 := q0r Tryz.func55 (by kernel_rfl) (by kernel_rfl)
theorem ent_59 : q0n Tryz.prog 59 := q0r Tryz.func59 (by kernel_rfl) (by kernel_rfl)
theorem ent_69 : q0n Tryz.prog 69 := q0r Tryz.func69 (by kernel_rfl) (by kernel_rfl)
theorem ent_70 : q0n Tryz.prog 70 := q0r Tryz.func70 (by kernel_rfl) (by kernel_rfl)
theorem ent_71 : q0n Tryz.prog 71 := q0r Tryz.func71 (by kernel_rfl) (by kernel_rfl)
theorem q8l : q0n Tryz.prog 72 := q0r Tryz.func72 (by kernel_rfl) (by kernel_rfl)
theorem ent_73 : q0n Tryz.prog 73 := q0r Tryz.func73 (by kernel_rfl) (by kernel_rfl)
theorem ent_74 : q0n Tryz.prog 74 := q0r Tryz.func74 (by kernel_rfl) (by kernel_rfl)
theorem q7m : q0n Tryz.prog 75 := q0r Tryz.func75 (by kernel_rfl) (by kernel_rfl)
theorem j27 : q0n Tryz.prog 76 := q0r Tryz.func76 (by kernel_rfl) (by kernel_rfl)
theorem ent_77 : q0n Tryz.prog 77 := q0r Tryz.func77 (by kernel_rfl) (by kernel_rfl)
theorem ent_78 : q0n Tryz.prog 78 := q0r Tryz.func78 (by kernel_rfl) (by kernel_rfl)
theorem j4h : q0n Tryz.prog 79 := q0r Tryz.func79 (by kernel_rfl) (by kernel_rfl)
theorem ent_80 : q0n Tryz.prog 80 := q0r Tryz.func80 (by kernel_rfl) (by kernel_rfl)
theorem q6g : q0n Tryz.prog 81 := q0r Tryz.func81 (by kernel_rfl) (by kernel_rfl)
theorem j28 : q0n Tryz.prog 82 := q0r Tryz.func82 (by kernel_rfl) (by kernel_rfl)
theorem j4i : q0n Tryz.prog 83 := q0r Tryz.func83 (by kernel_rfl) (by kernel_rfl)
theorem j29 : q0n Tryz.prog 84 := q0r Tryz.func84 (by kernel_rfl) (by kernel_rfl)
theorem ent_85 : q0n Tryz.prog 85 := q0r Tryz.func85 (by kernel_rfl) (by kernel_rfl)
theorem ent_86 : q0n Tryz.prog 86 := q0r Tryz.func86 (by kernel_rfl) (by kernel_rfl)
theorem ent_88 : q0n Tryz.prog 88 := q0r Tryz.func88 (by kernel_rfl) (by kernel_rfl)
theorem ent_89 : q0n Tryz.prog 89 := q0r Tryz.func89 (by kernel_rfl) (by kernel_rfl)
theorem ent_90 : q0n Tryz.prog 90 := q0r Tryz.func90 (by kernel_rfl) (by kernel_rfl)
theorem ent_91 : q0n Tryz.prog 91 := q0r Tryz.func91 (by kernel_rfl) (by kernel_rfl)
theorem ent_93 : q0n Tryz.prog 93 := q0r Tryz.func93 (by kernel_rfl) (by kernel_rfl)
theorem ent_96 : q0n Tryz.prog 96 := q0r Tryz.func96 (by kernel_rfl) (by kernel_rfl)
theorem ent_97 : q0n Tryz.prog 97 := q0r Tryz.func97 (by kernel_rfl) (by kernel_rfl)
theorem ent_113 : q0n Tryz.prog 113 := q0r Tryz.func113 (by kernel_rfl) (by kernel_rfl)
theorem ent_114 : q0n Tryz.prog 114 := q0r Tryz.func114 (by kernel_rfl) (by kernel_rfl)
theorem ent_115 : q0n Tryz.prog 115 := q0r Tryz.func115 (by kernel_rfl) (by kernel_rfl)
theorem ent_116 : q0n Tryz.prog 116 := q0r Tryz.func116 (by kernel_rfl) (by kernel_rfl)
theorem ent_117 : q0n Tryz.prog 117 := q0r Tryz.func117 (by kernel_rfl) (by kernel_rfl)
theorem ent_118 : q0n Tryz.prog 118 := q0r Tryz.func118 (by kernel_rfl) (by kernel_rfl)
theorem ent_119 : q0n Tryz.prog 119 := q0r Tryz.func119 (by kernel_rfl) (by kernel_rfl)
theorem ent_120 : q0n Tryz.prog 120 := q0r Tryz.func120 (by kernel_rfl) (by kernel_rfl)
theorem ent_121 : q0n Tryz.prog 121 := q0r Tryz.func121 (by kernel_rfl) (by kernel_rfl)
theorem j6a : q0n Tryz.prog 122 := q0r Tryz.func122 (by kernel_rfl) (by kernel_rfl)
theorem ent_123 : q0n Tryz.prog 123 := q0r Tryz.func123 (by kernel_rfl) (by kernel_rfl)
theorem ent_124 : q0n Tryz.prog 124 := q0r Tryz.func124 (by kernel_rfl) (by kernel_rfl)
theorem ent_125 : q0n Tryz.prog 125 := q0r Tryz.func125 (by kernel_rfl) (by kernel_rfl)
theorem ent_126 : q0n Tryz.prog 126 := q0r Tryz.func126 (by kernel_rfl) (by kernel_rfl)
theorem ent_127 : q0n Tryz.prog 127 := q0r Tryz.func127 (by kernel_rfl) (by kernel_rfl)
theorem ent_128 : q0n Tryz.prog 128 := q0r Tryz.func128 (by kernel_rfl) (by kernel_rfl)
theorem ent_129 : q0n Tryz.prog 129 := q0r Tryz.func129 (by kernel_rfl) (by kernel_rfl)
theorem ent_130 : q0n Tryz.prog 130 := q0r Tryz.func130 (by kernel_rfl) (by kernel_rfl)
theorem ent_131 : q0n Tryz.prog 131 := q0r Tryz.func131 (by kernel_rfl) (by kernel_rfl)
theorem ent_132 : q0n Tryz.prog 132 := q0r Tryz.func132 (by kernel_rfl) (by kernel_rfl)
theorem j16 : q0n Tryz.prog 133 := q0r Tryz.func133 (by kernel_rfl) (by kernel_rfl)
theorem ent_134 : q0n Tryz.prog 134 := q0r Tryz.func134 (by kernel_rfl) (by kernel_rfl)
theorem j6b : q0n Tryz.prog 135 := q0r Tryz.func135 (by kernel_rfl) (by kernel_rfl)
theorem j4c : q0n Tryz.prog 136 := q0r Tryz.func136 (by kernel_rfl) (by kernel_rfl)
theorem j6c : q0n Tryz.prog 137 := q0r Tryz.func137 (by kernel_rfl) (by kernel_rfl)
theorem ent_138 : q0n Tryz.prog 138 := q0r Tryz.func138 (by kernel_rfl) (by kernel_rfl)
theorem ent_139 : q0n Tryz.prog 139 := q0r Tryz.func139 (by kernel_rfl) (by kernel_rfl)
theorem ent_140 : q0n Tryz.prog 140 := q0r Tryz.func140 (by kernel_rfl) (by kernel_rfl)
theorem ent_141 : q0n Tryz.prog 141 := q0r Tryz.func141 (by kernel_rfl) (by kernel_rfl)
theorem ent_143 : q0n Tryz.prog 143 := q0r Tryz.func143 (by kernel_rfl) (by kernel_rfl)
theorem ent_155 : q0n Tryz.prog 155 := q0r Tryz.func155 (by kernel_rfl) (by kernel_rfl)
theorem ent_157 : q0n Tryz.prog 157 := q0r Tryz.func157 (by kernel_rfl) (by kernel_rfl)
theorem ent_158 : q0n Tryz.prog 158 := q0r Tryz.func158 (by kernel_rfl) (by kernel_rfl)
theorem ent_159 : q0n Tryz.prog 159 := q0r Tryz.func159 (by kernel_rfl) (by kernel_rfl)
theorem ent_160 : q0n Tryz.prog 160 := q0r Tryz.func160 (by kernel_rfl) (by kernel_rfl)
theorem ent_161 : q0n Tryz.prog 161 := q0r Tryz.func161 (by kernel_rfl) (by kernel_rfl)
theorem ent_162 : q0n Tryz.prog 162 := q0r Tryz.func162 (by kernel_rfl) (by kernel_rfl)
theorem ent_163 : q0n Tryz.prog 163 := q0r Tryz.func163 (by kernel_rfl) (by kernel_rfl)
theorem ent_164 : q0n Tryz.prog 164 := q0r Tryz.func164 (by kernel_rfl) (by kernel_rfl)
theorem j6d : q0n Tryz.prog 165 := q0r Tryz.func165 (by kernel_rfl) (by kernel_rfl)
theorem ent_166 : q0n Tryz.prog 166 := q0r Tryz.func166 (by kernel_rfl) (by kernel_rfl)
theorem ent_167 : q0n Tryz.prog 167 := q0r Tryz.func167 (by kernel_rfl) (by kernel_rfl)
theorem ent_168 : q0n Tryz.prog 168 := q0r Tryz.func168 (by kernel_rfl) (by kernel_rfl)
theorem j4d : q0n Tryz.prog 169 := q0r Tryz.func169 (by kernel_rfl) (by kernel_rfl)
theorem ent_170 : q0n Tryz.prog 170 := q0r Tryz.func170 (by kernel_rfl) (by kernel_rfl)
theorem ent_171 : q0n Tryz.prog 171 := q0r Tryz.func171 (by kernel_rfl) (by kernel_rfl)
theorem ent_172 : q0n Tryz.prog 172 := q0r Tryz.func172 (by kernel_rfl) (by kernel_rfl)
theorem ent_173 : q0n Tryz.prog 173 := q0r Tryz.func173 (by kernel_rfl) (by kernel_rfl)
theorem ent_174 : q0n Tryz.prog 174 := q0r Tryz.func174 (by kernel_rfl) (by kernel_rfl)
theorem ent_175 : q0n Tryz.prog 175 := q0r Tryz.func175 (by kernel_rfl) (by kernel_rfl)
theorem ent_176 : q0n Tryz.prog 176 := q0r Tryz.func176 (by kernel_rfl) (by kernel_rfl)
theorem ent_181 : q0n Tryz.prog 181 := q0r Tryz.func181 (by kernel_rfl) (by kernel_rfl)
theorem ent_182 : q0n Tryz.prog 182 := q0r Tryz.func182 (by kernel_rfl) (by kernel_rfl)
theorem ent_219 : q0n Tryz.prog 219 := q0r Tryz.func219 (by kernel_rfl) (by kernel_rfl)
theorem ent_220 : q0n Tryz.prog 220 := q0r Tryz.func220 (by kernel_rfl) (by kernel_rfl)
theorem ent_221 : q0n Tryz.prog 221 := q0r Tryz.func221 (by kernel_rfl) (by kernel_rfl)
theorem ent_223 : q0n Tryz.prog 223 := q0r Tryz.func223 (by kernel_rfl) (by kernel_rfl)
theorem ent_224 : q0n Tryz.prog 224 := q0r Tryz.func224 (by kernel_rfl) (by kernel_rfl)
theorem ent_225 : q0n Tryz.prog 225 := q0r Tryz.func225 (by kernel_rfl) (by kernel_rfl)
theorem j4e : q0n Tryz.prog 226 := q0r Tryz.func226 (by kernel_rfl) (by kernel_rfl)
theorem ent_256 : q0n Tryz.prog 256 := q0r Tryz.func256 (by kernel_rfl) (by kernel_rfl)
theorem j4f : q0n Tryz.prog 257 := q0r Tryz.func257 (by kernel_rfl) (by kernel_rfl)
theorem ent_265 : q0n Tryz.prog 265 := q0r Tryz.func265 (by kernel_rfl) (by kernel_rfl)
theorem ent_267 : q0n Tryz.prog 267 := q0r Tryz.func267 (by kernel_rfl) (by kernel_rfl)
theorem ent_270 : q0n Tryz.prog 270 := q0r Tryz.func270 (by kernel_rfl) (by kernel_rfl)
theorem ent_271 : q0n Tryz.prog 271 := q0r Tryz.func271 (by kernel_rfl) (by kernel_rfl)
theorem ent_272 : q0n Tryz.prog 272 := q0r Tryz.func272 (by kernel_rfl) (by kernel_rfl)
theorem j17 : q0n Tryz.prog 290 := q0r Tryz.func290 (by kernel_rfl) (by kernel_rfl)
theorem j25 : q0n Tryz.prog 291 := q0r Tryz.func291 (by kernel_rfl) (by kernel_rfl)
theorem ent_303 : q0n Tryz.prog 303 := q0r Tryz.func303 (by kernel_rfl) (by kernel_rfl)
theorem mixP : Tryz.prog.follows .mixedOrders = true := by kernel_rfl

end Go.Proofs.YthkofkaocipomaaGreatDoor
