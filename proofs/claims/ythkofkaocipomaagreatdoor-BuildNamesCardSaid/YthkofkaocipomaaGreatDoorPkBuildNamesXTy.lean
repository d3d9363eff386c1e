/- The types as a table, and which functions can be entered (written by gen_ty.py out of the translation). -/
import Derived.Test.YthkofkaocipomaaGreatDoorProg
import Derived.Test.YthkofkaocipomaaGreatDoorPkBuildNamesXAbB
namespace Go.Proofs.YthkofkaocipomaaGreatDoor
open Go.RowKit
set_option linter.unusedVariables false

theorem tyA_2 : tyA Tryz.prog 2 = some ⟨false, 1, 8, [.int .i64 0], 0, [], 13, []⟩ := by kernel_rfl
theorem tyA_3 : tyA Tryz.prog 3 = some ⟨false, 1, 8, [.int .i64 0], 0, [], 13, []⟩ := by kernel_rfl
theorem tyA_4 : tyA Tryz.prog 4 = some ⟨false, 1, 1, [.bool false], 0, [], 4, []⟩ := by kernel_rfl
theorem tyA_5 : tyA Tryz.prog 5 = some ⟨false, 1, 1, [.int .u8 0], 0, [], 14, []⟩ := by kernel_rfl
theorem tyA_6 : tyA Tryz.prog 6 = some ⟨false, 1, 1, [.int .u8 0], 0, [], 14, []⟩ := by kernel_rfl
theorem tyA_7 : tyA Tryz.prog 7 = some ⟨true, 4, 24, [.int .i64 0, .int .i64 0, .bool false, .int .u8 0], 0, [(0, 2), (1, 3), (2, 4), (3, 6)], 3, [(0, 1), (1, 1), (2, 1), (3, 1)]⟩ := by kernel_rfl
theorem tyA_8 : tyA Tryz.prog 8 = some ⟨true, 4, 24, [.int .i64 0, .int .i64 0, .bool false, .int .u8 0], 0, [(0, 2), (1, 3), (2, 4), (3, 6)], 3, [(0, 1), (1, 1), (2, 1), (3, 1)]⟩ := by kernel_rfl
theorem tyA_9 : tyA Tryz.prog 9 = some ⟨false, 1, 16, [.string ⟨#[]⟩], 0, [], 2, []⟩ := by kernel_rfl
theorem tyA_10 : tyA Tryz.prog 10 = some ⟨false, 1, 16, [.string ⟨#[]⟩], 0, [], 2, []⟩ := by kernel_rfl
theorem tyA_11 : tyA Tryz.prog 11 = some ⟨false, 1, 16, [.string ⟨#[]⟩], 0, [], 2, []⟩ := by kernel_rfl
theorem tyA_12 : tyA Tryz.prog 12 = some ⟨false, 1, 8, [.int .u64 0], 0, [], 17, []⟩ := by kernel_rfl
theorem tyA_13 : tyA Tryz.prog 13 = some ⟨true, 2, 24, [.string ⟨#[]⟩, .int .u64 0], 0, [(0, 9), (1, 12)], 3, [(0, 1), (1, 1)]⟩ := by kernel_rfl
theorem tyA_14 : tyA Tryz.prog 14 = some ⟨true, 2, 24, [.string ⟨#[]⟩, .int .u64 0], 0, [(0, 9), (1, 12)], 3, [(0, 1), (1, 1)]⟩ := by kernel_rfl
theorem tyA_15 : tyA Tryz.prog 15 = some ⟨false, 1, 8, [.pointer none], 352, [], 7, []⟩ := by kernel_rfl
theorem tyA_16 : tyA Tryz.prog 16 = some ⟨false, 1, 8, [.pointer none], 355, [], 7, []⟩ := by kernel_rfl
theorem tyA_17 : tyA Tryz.prog 17 = some ⟨false, 1, 8, [.pointer none], 363, [], 7, []⟩ := by kernel_rfl
theorem tyA_18 : tyA Tryz.prog 18 = some ⟨true, 1, 8, [.pointer none], 0, [(0, 17)], 3, [(0, 1)]⟩ := by kernel_rfl
theorem tyA_19 : tyA Tryz.prog 19 = some ⟨true, 1, 8, [.pointer none], 0, [(0, 17)], 3, [(0, 1)]⟩ := by kernel_rfl
theorem tyA_21 : tyA Tryz.prog 21 = some ⟨false, 1, 4, [.int .i32 0], 0, [], 12, []⟩ := by kernel_rfl
theorem tyA_22 : tyA Tryz.prog 22 = some ⟨false, 1, 24, [.slice none 0 0], 25, [], 1, []⟩ := by kernel_rfl
theorem tyA_23 : tyA Tryz.prog 23 = some ⟨false, 1, 24, [.slice none 0 0], 9, [], 1, []⟩ := by kernel_rfl
theorem tyA_24 : tyA Tryz.prog 24 = some ⟨true, 5, 80, [.int .i64 0, .int .i64 0, .string ⟨#[]⟩, .slice none 0 0, .slice none 0 0], 0, [(0, 3), (1, 2), (2, 9), (3, 22), (4, 23)], 3, [(0, 1), (1, 1), (2, 1), (3, 1), (4, 1)]⟩ := by kernel_rfl
theorem tyA_25 : tyA Tryz.prog 25 = some ⟨true, 5, 80, [.int .i64 0, .int .i64 0, .string ⟨#[]⟩, .slice none 0 0, .slice none 0 0], 0, [(0, 3), (1, 2), (2, 9), (3, 22), (4, 23)], 3, [(0, 1), (1, 1), (2, 1), (3, 1), (4, 1)]⟩ := by kernel_rfl
theorem tyA_28 : tyA Tryz.prog 28 = some ⟨false, 1, 24, [.slice none 0 0], 40, [], 1, []⟩ := by kernel_rfl
theorem tyA_29 : tyA Tryz.prog 29 = some ⟨true, 2, 32, [.slice none 0 0, .int .i64 0], 0, [(0, 28), (1, 3)], 3, [(0, 1), (1, 1)]⟩ := by kernel_rfl
theorem tyA_30 : tyA Tryz.prog 30 = some ⟨true, 2, 32, [.slice none 0 0, .int .i64 0], 0, [(0, 28), (1, 3)], 3, [(0, 1), (1, 1)]⟩ := by kernel_rfl
theorem tyA_31 : tyA Tryz.prog 31 = some ⟨false, 1, 8, [.int .i64 0], 0, [], 13, []⟩ := by kernel_rfl
theorem tyA_37 : tyA Tryz.prog 37 = some ⟨false, 1, 24, [.slice none 0 0], 72, [], 1, []⟩ := by kernel_rfl
theorem tyA_38 : tyA Tryz.prog 38 = some ⟨false, 1, 24, [.slice none 0 0], 3, [], 1, []⟩ := by kernel_rfl
theorem tyA_39 : tyA Tryz.prog 39 = some ⟨true, 10, 160, [.int .i64 0, .string ⟨#[]⟩, .slice none 0 0, .slice none 0 0, .slice none 0 0, .bool false, .string ⟨#[]⟩, .int .i64 0, .int .i64 0, .slice none 0 0], 0, [(0, 3), (1, 9), (2, 23), (3, 37), (4, 23), (5, 4), (6, 9), (7, 3), (8, 3), (9, 38)], 3, [(0, 1), (1, 1), (2, 1), (3, 1), (4, 1), (5, 1), (6, 1), (7, 1), (8, 1), (9, 1)]⟩ := by kernel_rfl
theorem tyA_40 : tyA Tryz.prog 40 = some ⟨true, 10, 160, [.int .i64 0, .string ⟨#[]⟩, .slice none 0 0, .slice none 0 0, .slice none 0 0, .bool false, .string ⟨#[]⟩, .int .i64 0, .int .i64 0, .slice none 0 0], 0, [(0, 3), (1, 9), (2, 23), (3, 37), (4, 23), (5, 4), (6, 9), (7, 3), (8, 3), (9, 38)], 3, [(0, 1), (1, 1), (2, 1), (3, 1), (4, 1), (5, 1), (6, 1), (7, 1), (8, 1), (9, 1)]⟩ := by kernel_rfl
theorem tyA_47 : tyA Tryz.prog 47 = some ⟨false, 1, 8, [.pointer none], 133, [], 7, []⟩ := by kernel_rfl
theorem tyA_50 : tyA Tryz.prog 50 = some ⟨false, 1, 24, [.slice none 0 0], 5, [], 1, []⟩ := by kernel_rfl
theorem tyA_58 : tyA Tryz.prog 58 = some ⟨false, 1, 8, [.pointer none], 60, [], 7, []⟩ := by kernel_rfl
theorem tyA_59 : tyA Tryz.prog 59 = some ⟨true, 3, 40, [.slice none 0 0, .int .i64 0, .int .i64 0], 0, [(0, 30), (2, 31)], 3, [(0, 2), (2, 1)]⟩ := by kernel_rfl
theorem tyA_60 : tyA Tryz.prog 60 = some ⟨true, 3, 40, [.slice none 0 0, .int .i64 0, .int .i64 0], 0, [(0, 30), (2, 31)], 3, [(0, 2), (2, 1)]⟩ := by kernel_rfl
theorem tyA_64 : tyA Tryz.prog 64 = some ⟨false, 1, 8, [.pointer none], 66, [], 7, []⟩ := by kernel_rfl
theorem tyA_65 : tyA Tryz.prog 65 = some ⟨true, 2, 32, [.slice none 0 0, .int .i64 0], 0, [(0, 30)], 3, [(0, 2)]⟩ := by kernel_rfl
theorem tyA_66 : tyA Tryz.prog 66 = some ⟨true, 2, 32, [.slice none 0 0, .int .i64 0], 0, [(0, 30)], 3, [(0, 2)]⟩ := by kernel_rfl
theorem tyA_71 : tyA Tryz.prog 71 = some ⟨true, 9, 136, [.string ⟨#[]⟩, .slice none 0 0, .int .i64 0, .bool false, .int .i64 0, .int .i64 0, .string ⟨#[]⟩, .slice none 0 0, .slice none 0 0], 0, [(0, 9), (1, 23), (2, 3), (3, 4), (4, 25)], 3, [(0, 1), (1, 1), (2, 1), (3, 1), (4, 5)]⟩ := by kernel_rfl
theorem tyA_72 : tyA Tryz.prog 72 = some ⟨true, 9, 136, [.string ⟨#[]⟩, .slice none 0 0, .int .i64 0, .bool false, .int .i64 0, .int .i64 0, .string ⟨#[]⟩, .slice none 0 0, .slice none 0 0], 0, [(0, 9), (1, 23), (2, 3), (3, 4), (4, 25)], 3, [(0, 1), (1, 1), (2, 1), (3, 1), (4, 5)]⟩ := by kernel_rfl
theorem tyA_88 : tyA Tryz.prog 88 = some ⟨false, 1, 8, [.int .u64 0], 0, [], 17, []⟩ := by kernel_rfl
theorem tyA_89 : tyA Tryz.prog 89 = some ⟨false, 1, 24, [.slice none 0 0], 91, [], 1, []⟩ := by kernel_rfl
theorem tyA_90 : tyA Tryz.prog 90 = some ⟨true, 6, 96, [.int .i64 0, .int .i64 0, .int .u64 0, .slice none 0 0, .slice none 0 0, .slice none 0 0], 0, [(0, 3), (1, 2), (2, 88), (3, 50), (4, 89), (5, 23)], 3, [(0, 1), (1, 1), (2, 1), (3, 1), (4, 1), (5, 1)]⟩ := by kernel_rfl
theorem tyA_91 : tyA Tryz.prog 91 = some ⟨true, 6, 96, [.int .i64 0, .int .i64 0, .int .u64 0, .slice none 0 0, .slice none 0 0, .slice none 0 0], 0, [(0, 3), (1, 2), (2, 88), (3, 50), (4, 89), (5, 23)], 3, [(0, 1), (1, 1), (2, 1), (3, 1), (4, 1), (5, 1)]⟩ := by kernel_rfl
theorem tyA_99 : tyA Tryz.prog 99 = some ⟨false, 1, 8, [.pointer none], 103, [], 7, []⟩ := by kernel_rfl
theorem q9k : tyA Tryz.prog 100 = some ⟨true, 5, 48, [.int .i64 0, .int .i64 0, .string ⟨#[]⟩, .int .i64 0, .int .i64 0], 0, [(0, 3), (1, 2), (2, 9), (3, 3), (4, 3)], 3, [(0, 1), (1, 1), (2, 1), (3, 1), (4, 1)]⟩ := by kernel_rfl
theorem q9l : tyA Tryz.prog 101 = some ⟨true, 5, 48, [.int .i64 0, .int .i64 0, .string ⟨#[]⟩, .int .i64 0, .int .i64 0], 0, [(0, 3), (1, 2), (2, 9), (3, 3), (4, 3)], 3, [(0, 1), (1, 1), (2, 1), (3, 1), (4, 1)]⟩ := by kernel_rfl
theorem q9m : tyA Tryz.prog 102 = some ⟨true, 8, 88, [.slice none 0 0, .int .i64 0, .int .i64 0, .int .i64 0, .int .i64 0, .string ⟨#[]⟩, .int .i64 0, .int .i64 0], 0, [(0, 50), (1, 3), (2, 31), (3, 101)], 3, [(0, 1), (1, 1), (2, 1), (3, 5)]⟩ := by kernel_rfl
theorem q9n : tyA Tryz.prog 103 = some ⟨true, 8, 88, [.slice none 0 0, .int .i64 0, .int .i64 0, .int .i64 0, .int .i64 0, .string ⟨#[]⟩, .int .i64 0, .int .i64 0], 0, [(0, 50), (1, 3), (2, 31), (3, 101)], 3, [(0, 1), (1, 1), (2, 1), (3, 5)]⟩ := by kernel_rfl
theorem q9o : tyA Tryz.prog 121 = some ⟨false, 1, 8, [.pointer none], 123, [], 7, []⟩ := by kernel_rfl
theorem q9p : tyA Tryz.prog 122 = some ⟨true, 3, 40, [.slice none 0 0, .int .i64 0, .int .i64 0], 0, [(0, 30), (2, 3)], 3, [(0, 2), (2, 1)]⟩ := by kernel_rfl
theorem q9q : tyA Tryz.prog 123 = some ⟨true, 3, 40, [.slice none 0 0, .int .i64 0, .int .i64 0], 0, [(0, 30), (2, 3)], 3, [(0, 2), (2, 1)]⟩ := by kernel_rfl
theorem q9r : tyA Tryz.prog 128 = some ⟨false, 1, 8, [.pointer none], 175, [], 7, []⟩ := by kernel_rfl
theorem q9s : tyA Tryz.prog 132 = some ⟨true, 5, 72, [.slice none 0 0, .int .i64 0, .slice none 0 0, .int .i64 0, .pointer none], 0, [(0, 30), (2, 30), (4, 128)], 3, [(0, 2), (2, 2), (4, 1)]⟩ := by kernel_rfl
theorem q9t : tyA Tryz.prog 133 = some ⟨true, 5, 72, [.slice none 0 0, .int .i64 0, .slice none 0 0, .int .i64 0, .pointer none], 0, [(0, 30), (2, 30), (4, 128)], 3, [(0, 2), (2, 2), (4, 1)]⟩ := by kernel_rfl
theorem q9u : tyA Tryz.prog 137 = some ⟨false, 1, 24, [.slice none 0 0], 141, [], 1, []⟩ := by kernel_rfl
theorem q9v : tyA Tryz.prog 141 = some ⟨true, 5, 48, [.int .i64 0, .int .i64 0, .string ⟨#[]⟩, .int .i64 0, .int .i64 0], 0, [(0, 3), (1, 2), (2, 9), (3, 3), (4, 3)], 3, [(0, 1), (1, 1), (2, 1), (3, 1), (4, 1)]⟩ := by kernel_rfl
theorem q9w : tyA Tryz.prog 170 = some ⟨true, 15, 240, [.string ⟨#[]⟩, .string ⟨#[]⟩, .string ⟨#[]⟩, .string ⟨#[]⟩, .string ⟨#[]⟩, .string ⟨#[]⟩, .string ⟨#[]⟩, .string ⟨#[]⟩, .string ⟨#[]⟩, .string ⟨#[]⟩, .string ⟨#[]⟩, .string ⟨#[]⟩, .string ⟨#[]⟩, .string ⟨#[]⟩, .string ⟨#[]⟩], 9, [(15, 9)], 6, []⟩ := by kernel_rfl
theorem q9x : tyA Tryz.prog 176 = some ⟨true, 2, 16, [.int .i64 0, .int .i64 0], 3, [(2, 3)], 6, []⟩ := by kernel_rfl
theorem q9y : tyA Tryz.prog 177 = some ⟨true, 2, 16, [.int .i64 0, .int .i64 0], 3, [(2, 3)], 6, []⟩ := by kernel_rfl
theorem q9z : tyA Tryz.prog 179 = some ⟨false, 1, 8, [.pointer none], 183, [], 7, []⟩ := by kernel_rfl
theorem q90 : tyA Tryz.prog 180 = some ⟨true, 3, 40, [.slice none 0 0, .int .i64 0, .int .i64 0], 0, [(0, 50), (1, 3), (2, 31)], 3, [(0, 1), (1, 1), (2, 1)]⟩ := by kernel_rfl
theorem q91 : tyA Tryz.prog 181 = some ⟨true, 3, 40, [.slice none 0 0, .int .i64 0, .int .i64 0], 0, [(0, 50), (1, 3), (2, 31)], 3, [(0, 1), (1, 1), (2, 1)]⟩ := by kernel_rfl
theorem q92 : tyA Tryz.prog 182 = some ⟨true, 4, 48, [.pointer none, .slice none 0 0, .int .i64 0, .int .i64 0], 0, [(0, 47), (1, 181)], 3, [(0, 1), (1, 3)]⟩ := by kernel_rfl
theorem q93 : tyA Tryz.prog 183 = some ⟨true, 4, 48, [.pointer none, .slice none 0 0, .int .i64 0, .int .i64 0], 0, [(0, 47), (1, 181)], 3, [(0, 1), (1, 3)]⟩ := by kernel_rfl
theorem q94 : tyA Tryz.prog 191 = some ⟨false, 1, 8, [.pointer none], 193, [], 7, []⟩ := by kernel_rfl
theorem q95 : tyA Tryz.prog 192 = some ⟨true, 4, 64, [.slice none 0 0, .int .i64 0, .int .i64 0, .slice none 0 0], 0, [(0, 50), (1, 3), (2, 31), (3, 50)], 3, [(0, 1), (1, 1), (2, 1), (3, 1)]⟩ := by kernel_rfl
theorem q96 : tyA Tryz.prog 193 = some ⟨true, 4, 64, [.slice none 0 0, .int .i64 0, .int .i64 0, .slice none 0 0], 0, [(0, 50), (1, 3), (2, 31), (3, 50)], 3, [(0, 1), (1, 1), (2, 1), (3, 1)]⟩ := by kernel_rfl
theorem q97 : tyA Tryz.prog 209 = some ⟨false, 1, 8, [.int .u64 0], 0, [], 17, []⟩ := by kernel_rfl
theorem q98 : tyA Tryz.prog 213 = some ⟨false, 1, 8, [.pointer none], 40, [], 7, []⟩ := by kernel_rfl
theorem q99 : tyA Tryz.prog 216 = some ⟨false, 1, 8, [.pointer none], 72, [], 7, []⟩ := by kernel_rfl
theorem j0a : tyA Tryz.prog 229 = some ⟨false, 1, 8, [.pointer none], 231, [], 7, []⟩ := by kernel_rfl
theorem j0b : tyA Tryz.prog 230 = some ⟨true, 3, 40, [.slice none 0 0, .int .i64 0, .int .i64 0], 0, [(0, 30), (2, 3)], 3, [(0, 2), (2, 1)]⟩ := by kernel_rfl
theorem j0c : tyA Tryz.prog 231 = some ⟨true, 3, 40, [.slice none 0 0, .int .i64 0, .int .i64 0], 0, [(0, 30), (2, 3)], 3, [(0, 2), (2, 1)]⟩ := by kernel_rfl
theorem j0d : tyA Tryz.prog 243 = some ⟨true, 3, 32, [.string ⟨#[]⟩, .int .i64 0, .int .i64 0], 0, [(0, 9), (1, 3), (2, 2)], 3, [(0, 1), (1, 1), (2, 1)]⟩ := by kernel_rfl
theorem j0e : tyA Tryz.prog 244 = some ⟨true, 3, 32, [.string ⟨#[]⟩, .int .i64 0, .int .i64 0], 0, [(0, 9), (1, 3), (2, 2)], 3, [(0, 1), (1, 1), (2, 1)]⟩ := by kernel_rfl
theorem j0f : tyA Tryz.prog 245 = some ⟨true, 9, 96, [.string ⟨#[]⟩, .int .i64 0, .int .i64 0, .string ⟨#[]⟩, .int .i64 0, .int .i64 0, .string ⟨#[]⟩, .int .i64 0, .int .i64 0], 244, [(3, 244)], 6, []⟩ := by kernel_rfl
theorem j0g : tyA Tryz.prog 254 = some ⟨false, 1, 4, [.int .u32 0], 0, [], 16, []⟩ := by kernel_rfl
theorem j0h : tyA Tryz.prog 296 = some ⟨false, 1, 24, [.slice none 0 0], 4, [], 1, []⟩ := by kernel_rfl
theorem j0i : tyA Tryz.prog 316 = some ⟨false, 1, 8, [.int .i64 0], 0, [], 13, []⟩ := by kernel_rfl
theorem j0j : tyA Tryz.prog 325 = some ⟨false, 1, 24, [.slice none 0 0], 2, [], 1, []⟩ := by kernel_rfl
theorem j0k : tyA Tryz.prog 326 = some ⟨false, 1, 24, [.slice none 0 0], 50, [], 1, []⟩ := by kernel_rfl
theorem j0l : tyA Tryz.prog 332 = some ⟨false, 1, 8, [.pointer none], 334, [], 7, []⟩ := by kernel_rfl
theorem j0m : tyA Tryz.prog 333 = some ⟨true, 5, 40, [.int .u64 0, .int .u64 0, .int .i64 0, .int .u8 0, .int .i64 0], 0, [(0, 88), (1, 209), (2, 3), (3, 5), (4, 3)], 3, [(0, 1), (1, 1), (2, 1), (3, 1), (4, 1)]⟩ := by kernel_rfl
theorem j0n : tyA Tryz.prog 334 = some ⟨true, 5, 40, [.int .u64 0, .int .u64 0, .int .i64 0, .int .u8 0, .int .i64 0], 0, [(0, 88), (1, 209), (2, 3), (3, 5), (4, 3)], 3, [(0, 1), (1, 1), (2, 1), (3, 1), (4, 1)]⟩ := by kernel_rfl
theorem j0o : tyA Tryz.prog 340 = some ⟨false, 1, 8, [.int .u64 0], 0, [], 17, []⟩ := by kernel_rfl
theorem j0p : tyA Tryz.prog 344 = some ⟨false, 1, 8, [.pointer none], 3, [], 7, []⟩ := by kernel_rfl
theorem j0q : tyA Tryz.prog 349 = some ⟨false, 1, 8, [.pointer none], 340, [], 7, []⟩ := by kernel_rfl
theorem j0r : tyA Tryz.prog 351 = some ⟨true, 4, 40, [.pointer none, .pointer none, .pointer none, .string ⟨#[]⟩], 0, [(0, 17), (1, 17), (2, 17), (3, 9)], 3, [(0, 1), (1, 1), (2, 1), (3, 1)]⟩ := by kernel_rfl
theorem j0s : tyA Tryz.prog 352 = some ⟨true, 4, 40, [.pointer none, .pointer none, .pointer none, .string ⟨#[]⟩], 0, [(0, 17), (1, 17), (2, 17), (3, 9)], 3, [(0, 1), (1, 1), (2, 1), (3, 1)]⟩ := by kernel_rfl
theorem j0t : tyA Tryz.prog 353 = some ⟨true, 0, 0, [], 16, [(0, 16)], 6, []⟩ := by kernel_rfl
theorem j0u : tyA Tryz.prog 354 = some ⟨true, 0, 0, [], 0, [(0, 353)], 3, [(0, 0)]⟩ := by kernel_rfl
theorem j0v : tyA Tryz.prog 355 = some ⟨true, 0, 0, [], 0, [(0, 353)], 3, [(0, 0)]⟩ := by kernel_rfl
theorem j0w : tyA Tryz.prog 356 = some ⟨false, 1, 1, [.int .u8 0], 0, [], 14, []⟩ := by kernel_rfl
theorem j0x : tyA Tryz.prog 357 = some ⟨false, 1, 1, [.int .u8 0], 0, [], 14, []⟩ := by kernel_rfl
theorem j0y : tyA Tryz.prog 359 = some ⟨false, 1, 8, [.pointer none], 5, [], 7, []⟩ := by kernel_rfl
theorem j0z : tyA Tryz.prog 360 = some ⟨false, 1, 4, [.int .i32 0], 0, [], 12, []⟩ := by kernel_rfl
theorem j00 : tyA Tryz.prog 361 = some ⟨false, 1, 4, [.int .i32 0], 0, [], 12, []⟩ := by kernel_rfl
theorem j01 : tyA Tryz.prog 365 = some ⟨false, 1, 8, [.pointer none], 0, [], 8, []⟩ := by kernel_rfl
theorem q5e : q0g Tryz.prog 5 := q0h Tryz.func5 (by kernel_rfl) (by kernel_rfl)
theorem ent_13 : q0g Tryz.prog 13 := q0h Tryz.func13 (by kernel_rfl) (by kernel_rfl)
theorem ent_16 : q0g Tryz.prog 16 := q0h Tryz.func16 (by kernel_rfl) (by kernel_rfl)
theorem ent_17 : q0g Tryz.prog 17 := q0h Tryz.func17 (by kernel_rfl) (by kernel_rfl)
theorem ent_18 : q0g Tryz.prog 18 := q0h Tryz.func18 (by kernel_rfl) (by kernel_rfl)
theorem ent_19 : q0g Tryz.prog 19 := q0h Tryz.func19 (by kernel_rfl) (by kernel_rfl)
theorem ent_20 : q0g Tryz.prog 20 := q0h Tryz.func20 (by kernel_rfl) (by kernel_rfl)
theorem ent_34 : q0g Tryz.prog 34 := q0h Tryz.func34 (by kernel_rfl) (by kernel_rfl)
theorem ent_35 : q0g Tryz.prog 35 := q0h Tryz.func35 (by kernel_rfl) (by kernel_rfl)
theorem ent_36 : q0g Tryz.prog 36 := q0h Tryz.func36 (by kernel_rfl) (by kernel_rfl)
theorem ent_37 : q0g Tryz.prog 37 := q0h Tryz.func37 (by kernel_rfl) (by kernel_rfl)
theorem ent_42 : q0g Tryz.prog 42 := q0h Tryz.func42 (by kernel_rfl) (by kernel_rfl)
theorem ent_43 : q0g Tryz.prog 43 := q0h Tryz.func43 (by kernel_rfl) (by kernel_rfl)
theorem ent_44 : q0g Tryz.prog 44 := q0h Tryz.func44 (by kernel_rfl) (by kernel_rfl)
theorem ent_45 : q0g Tryz.prog 45 := q0h Tryz.func45 (by kernel_rfl) (by kernel_rfl)
theorem ent_46 : q0g Tryz.prog 46 := q0h Tryz.func46 (by kernel_rfl) (by kernel_rfl)
theorem ent_47 : q0g Tryz.prog 47 := q0h Tryz.func47 (by kernel_rfl) (by kernel_rfl)
theorem ent_48 : q0g Tryz.prog 48 := q0h Tryz.func48 (by kernel_rfl) (by kernel_rfl)
theorem ent_49 : q0g Tryz.prog 49 := q0h Tryz.func49 (by kernel_rfl) (by kernel_rfl)
theorem ent_50 : q0g Tryz.prog 50 := q0h Tryz.func50 (by kernel_rfl) (by kernel_rfl)
theorem ent_51 : q0g Tryz.prog 51 := q0h Tryz.func51 (by kernel_rfl) (by kernel_rfl)
theorem q61 : q0g Tryz.prog 52 := q0h Tryz.func52 (by kernel_rfl) (by kernel_rfl)
theorem ent_54 : q0g Tryz.prog 54 := q0h Tryz.func54 (by kernel_rfl) (by kernel_rfl)
theorem ent_55 : q0g Tryz.prog 55 := q0h Tryz.func55 (by kernel_rfl) (by kernel_rfl)
theorem ent_59 : q0g Tryz.prog 59 := q0h Tryz.func59 (by kernel_rfl) (by kernel_rfl)
theorem ent_69 : q0g Tryz.prog 69 := q0h Tryz.func69 (by kernel_rfl) (by kernel_rfl)
theorem q5f : q0g Tryz.prog 72 := q0h Tryz.func72 (by kernel_rfl) (by kernel_rfl)
theorem ent_87 : q0g Tryz.prog 87 := q0h Tryz.func87 (by kernel_rfl) (by kernel_rfl)
theorem ent_88 : q0g Tryz.prog 88 := q0h Tryz.func88 (by kernel_rfl) (by kernel_rfl)
theorem ent_89 : q0g Tryz.prog 89 := q0h Tryz.func89 (by kernel_rfl) (by kernel_rfl)
theorem ent_90 : q0g Tryz.prog 90 := q0h Tryz.func90 (by kernel_rfl) (by kernel_rfl)
theorem ent_91 : q0g Tryz.prog 91 := q0h Tryz.func91 (by kernel_rfl) (by kernel_rfl)
theorem ent_93 : q0g Tryz.prog 93 := q0h Tryz.func93 (by kernel_rfl) (by kernel_rfl)
theorem ent_97 : q0g Tryz.prog 97 := q0h Tryz.func97 (by kernel_rfl) (by kernel_rfl)
theorem ent_113 : q0g Tryz.prog 113 := q0h Tryz.func113 (by kernel_rfl) (by kernel_rfl)
theorem ent_114 : q0g Tryz.prog 114 := q0h Tryz.func114 (by kernel_rfl) (by kernel_rfl)
theorem ent_115 : q0g Tryz.prog 115 := q0h Tryz.func115 (by kernel_rfl) (by kernel_rfl)
theorem ent_116 : q0g Tryz.prog 116 := q0h Tryz.func116 (by kernel_rfl) (by kernel_rfl)
theorem ent_117 : q0g Tryz.prog 117 := q0h Tryz.func117 (by kernel_rfl) (by kernel_rfl)
theorem ent_118 : q0g Tryz.prog 118 := q0h Tryz.func118 (by kernel_rfl) (by kernel_rfl)
theorem ent_119 : q0g Tryz.prog 119 := q0h Tryz.func119 (by kernel_rfl) (by kernel_rfl)
theorem ent_121 : q0g Tryz.prog 121 := q0h Tryz.func121 (by kernel_rfl) (by kernel_rfl)
theorem ent_124 : q0g Tryz.prog 124 := q0h Tryz.func124 (by kernel_rfl) (by kernel_rfl)
theorem ent_126 : q0g Tryz.prog 126 := q0h Tryz.func126 (by kernel_rfl) (by kernel_rfl)
theorem ent_139 : q0g Tryz.prog 139 := q0h Tryz.func139 (by kernel_rfl) (by kernel_rfl)
theorem ent_140 : q0g Tryz.prog 140 := q0h Tryz.func140 (by kernel_rfl) (by kernel_rfl)
theorem ent_141 : q0g Tryz.prog 141 := q0h Tryz.func141 (by kernel_rfl) (by kernel_rfl)
theorem ent_155 : q0g Tryz.prog 155 := q0h Tryz.func155 (by kernel_rfl) (by kernel_rfl)
theorem ent_157 : q0g Tryz.prog 157 := q0h Tryz.func157 (by kernel_rfl) (by kernel_rfl)
theorem ent_158 : q0g Tryz.prog 158 := q0h Tryz.func158 (by kernel_rfl) (by kernel_rfl)
theorem ent_159 : q0g Tryz.prog 159 := q0h Tryz.func159 (by kernel_rfl) (by kernel_rfl)
theorem ent_160 : q0g Tryz.prog 160 := q0h Tryz.func160 (by kernel_rfl) (by kernel_rfl)
theorem ent_161 : q0g Tryz.prog 161 := q0h Tryz.func161 (by kernel_rfl) (by kernel_rfl)
theorem ent_162 : q0g Tryz.prog 162 := q0h Tryz.func162 (by kernel_rfl) (by kernel_rfl)
theorem ent_163 : q0g Tryz.prog 163 := q0h Tryz.func163 (by kernel_rfl) (by kernel_rfl)
theorem ent_164 : q0g Tryz.prog 164 := q0h Tryz.func164 (by kernel_rfl) (by kernel_rfl)
theorem ent_166 : q0g Tryz.prog 166 := q0h Tryz.func166 (by kernel_rfl) (by kernel_rfl)
theorem ent_168 : q0g Tryz.prog 168 := q0h Tryz.func168 (by kernel_rfl) (by kernel_rfl)
theorem ent_169 : q0g Tryz.prog 169 := q0h Tryz.func169 (by kernel_rfl) (by kernel_rfl)
theorem ent_170 : q0g Tryz.prog 170 := q0h Tryz.func170 (by kernel_rfl) (by kernel_rfl)
theorem ent_171 : q0g Tryz.prog 171 := q0h Tryz.func171 (by kernel_rfl) (by kernel_rfl)
theorem ent_181 : q0g Tryz.prog 181 := q0h Tryz.func181 (by kernel_rfl) (by kernel_rfl)
theorem ent_219 : q0g Tryz.prog 219 := q0h Tryz.func219 (by kernel_rfl) (by kernel_rfl)
theorem ent_220 : q0g Tryz.prog 220 := q0h Tryz.func220 (by kernel_rfl) (by kernel_rfl)
theorem ent_221 : q0g Tryz.prog 221 := q0h Tryz.func221 (by kernel_rfl) (by kernel_rfl)
theorem ent_265 : q0g Tryz.prog 265 := q0h Tryz.func265 (by kernel_rfl) (by kernel_rfl)
theorem ent_267 : q0g Tryz.prog 267 := q0h Tryz.func267 (by kernel_rfl) (by kernel_rfl)
theorem q5d : q0g Tryz.prog 290 := q0h Tryz.func290 (by kernel_rfl) (by kernel_rfl)
theorem q57 : q0g Tryz.prog 291 := q0h Tryz.func291 (by kernel_rfl) (by kernel_rfl)
theorem mixP : Tryz.prog.follows .mixedOrders = true := by kernel_rfl

end Go.Proofs.YthkofkaocipomaaGreatDoor
