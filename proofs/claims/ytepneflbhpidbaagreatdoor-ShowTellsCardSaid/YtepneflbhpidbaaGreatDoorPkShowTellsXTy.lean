/- The types as a table, and which functions can be entered (written by gen_ty.py out of the translation). -/
import Derived.Test.YtepneflbhpidbaaGreatDoorProg
import Derived.Test.YtepneflbhpidbaaGreatDoorPkShowTellsXAbB
namespace Go.Proofs.YtepneflbhpidbaaGreatDoor
open Go.RowKit
set_option linter.unusedVariables false

theorem tyA_2 : tyA Tryz.prog 2 = some ⟨false, 1, 8, [.int .i64 0], 0, [], 13, []⟩ := by kernel_rfl
theorem tyA_3 : tyA Tryz.prog 3 = some ⟨false, 1, 8, [.int .i64 0], 0, [], 13, []⟩ := by kernel_rfl
theorem tyA_4 : tyA Tryz.prog 4 = some ⟨false, 1, 1, [.bool false], 0, [], 4, []⟩ := by kernel_rfl
theorem tyA_5 : tyA Tryz.prog 5 = some ⟨false, 1, 1, [.int .u8 0], 0, [], 14, []⟩ := by kernel_rfl
theorem tyA_6 : tyA Tryz.prog 6 = some ⟨false, 1, 1, [.int .u8 0], 0, [], 14, []⟩ := by kernel_rfl
theorem tyA_7 : tyA Tryz.prog 7 = some ⟨true, 4, 24, [.int .i64 0, .int .i64 0, .bool false, .int .u8 0], 0, [(0, 2), (1, 3), (2, 4), (3, 6)], 3, [(0, 1), (1, 1), (2, 1), (3, 1)]⟩ := by kernel_rfl
theorem tyA_8 : tyA Tryz.prog 8 = some ⟨true, 4, 24, [.int .i64 0, .int .i64 0, .bool false, .int .u8 0], 0, [(0, 2), (1, 3), (2, 4), (3, 6)], 3, [(0, 1), (1, 1), (2, 1), (3, 1)]⟩ := by kernel_rfl
theorem tyA_9 : tyA Tryz.prog 9 = some ⟨false, 1, 16, [.string ⟨#[]⟩], 0, [], 2, []⟩ := by kernel_rfl
theorem tyA_10 : tyA Tryz.prog 10 = some ⟨false, 1, 16, [.string ⟨#[]⟩], 0, [], 2, []⟩ := by kernel_rfl
theorem tyA_11 : tyA Tryz.prog 11 = some ⟨false, 1, 16, [.string ⟨#[]⟩], 0, [], 2, []⟩ := by kernel_rfl
theorem tyA_12 : tyA Tryz.prog 12 = some ⟨false, 1, 8, [.int .u64 0], 0, [], 17, []⟩ := by kernel_rfl
theorem tyA_13 : tyA Tryz.prog 13 = some ⟨true, 2, 24, [.string ⟨#[]⟩, .int .u64 0], 0, [(0, 9), (1, 12)], 3, [(0, 1), (1, 1)]⟩ := by kernel_rfl
theorem tyA_14 : tyA Tryz.prog 14 = some ⟨true, 2, 24, [.string ⟨#[]⟩, .int .u64 0], 0, [(0, 9), (1, 12)], 3, [(0, 1), (1, 1)]⟩ := by kernel_rfl
theorem tyA_15 : tyA Tryz.prog 15 = some ⟨false, 1, 8, [.pointer none], 291, [], 7, []⟩ := by kernel_rfl
theorem tyA_16 : tyA Tryz.prog 16 = some ⟨false, 1, 8, [.pointer none], 294, [], 7, []⟩ := by kernel_rfl
theorem tyA_17 : tyA Tryz.prog 17 = some ⟨false, 1, 8, [.pointer none], 301, [], 7, []⟩ := by kernel_rfl
theorem tyA_18 : tyA Tryz.prog 18 = some ⟨true, 1, 8, [.pointer none], 0, [(0, 17)], 3, [(0, 1)]⟩ := by kernel_rfl
theorem tyA_19 : tyA Tryz.prog 19 = some ⟨true, 1, 8, [.pointer none], 0, [(0, 17)], 3, [(0, 1)]⟩ := by kernel_rfl
theorem tyA_21 : tyA Tryz.prog 21 = some ⟨false, 1, 4, [.int .i32 0], 0, [], 12, []⟩ := by kernel_rfl
theorem tyA_22 : tyA Tryz.prog 22 = some ⟨false, 1, 24, [.slice none 0 0], 33, [], 1, []⟩ := by kernel_rfl
theorem tyA_23 : tyA Tryz.prog 23 = some ⟨true, 2, 32, [.slice none 0 0, .int .i64 0], 0, [(0, 22), (1, 3)], 3, [(0, 1), (1, 1)]⟩ := by kernel_rfl
theorem tyA_24 : tyA Tryz.prog 24 = some ⟨true, 2, 32, [.slice none 0 0, .int .i64 0], 0, [(0, 22), (1, 3)], 3, [(0, 1), (1, 1)]⟩ := by kernel_rfl
theorem tyA_29 : tyA Tryz.prog 29 = some ⟨false, 1, 24, [.slice none 0 0], 9, [], 1, []⟩ := by kernel_rfl
theorem tyA_30 : tyA Tryz.prog 30 = some ⟨false, 1, 24, [.slice none 0 0], 38, [], 1, []⟩ := by kernel_rfl
theorem tyA_31 : tyA Tryz.prog 31 = some ⟨false, 1, 24, [.slice none 0 0], 3, [], 1, []⟩ := by kernel_rfl
theorem tyA_32 : tyA Tryz.prog 32 = some ⟨true, 10, 160, [.int .i64 0, .string ⟨#[]⟩, .slice none 0 0, .slice none 0 0, .slice none 0 0, .bool false, .string ⟨#[]⟩, .int .i64 0, .int .i64 0, .slice none 0 0], 0, [(0, 3), (1, 9), (2, 29), (3, 30), (4, 29), (5, 4), (6, 9), (7, 3), (8, 3), (9, 31)], 3, [(0, 1), (1, 1), (2, 1), (3, 1), (4, 1), (5, 1), (6, 1), (7, 1), (8, 1), (9, 1)]⟩ := by kernel_rfl
theorem tyA_33 : tyA Tryz.prog 33 = some ⟨true, 10, 160, [.int .i64 0, .string ⟨#[]⟩, .slice none 0 0, .slice none 0 0, .slice none 0 0, .bool false, .string ⟨#[]⟩, .int .i64 0, .int .i64 0, .slice none 0 0], 0, [(0, 3), (1, 9), (2, 29), (3, 30), (4, 29), (5, 4), (6, 9), (7, 3), (8, 3), (9, 31)], 3, [(0, 1), (1, 1), (2, 1), (3, 1), (4, 1), (5, 1), (6, 1), (7, 1), (8, 1), (9, 1)]⟩ := by kernel_rfl
theorem tyA_34 : tyA Tryz.prog 34 = some ⟨false, 1, 24, [.slice none 0 0], 36, [], 1, []⟩ := by kernel_rfl
theorem tyA_35 : tyA Tryz.prog 35 = some ⟨true, 5, 80, [.int .i64 0, .int .i64 0, .string ⟨#[]⟩, .slice none 0 0, .slice none 0 0], 0, [(0, 3), (1, 2), (2, 9), (3, 34), (4, 29)], 3, [(0, 1), (1, 1), (2, 1), (3, 1), (4, 1)]⟩ := by kernel_rfl
theorem tyA_36 : tyA Tryz.prog 36 = some ⟨true, 5, 80, [.int .i64 0, .int .i64 0, .string ⟨#[]⟩, .slice none 0 0, .slice none 0 0], 0, [(0, 3), (1, 2), (2, 9), (3, 34), (4, 29)], 3, [(0, 1), (1, 1), (2, 1), (3, 1), (4, 1)]⟩ := by kernel_rfl
theorem tyA_37 : tyA Tryz.prog 37 = some ⟨true, 9, 136, [.string ⟨#[]⟩, .slice none 0 0, .int .i64 0, .bool false, .int .i64 0, .int .i64 0, .string ⟨#[]⟩, .slice none 0 0, .slice none 0 0], 0, [(0, 9), (1, 29), (2, 3), (3, 4), (4, 36)], 3, [(0, 1), (1, 1), (2, 1), (3, 1), (4, 5)]⟩ := by kernel_rfl
theorem tyA_38 : tyA Tryz.prog 38 = some ⟨true, 9, 136, [.string ⟨#[]⟩, .slice none 0 0, .int .i64 0, .bool false, .int .i64 0, .int .i64 0, .string ⟨#[]⟩, .slice none 0 0, .slice none 0 0], 0, [(0, 9), (1, 29), (2, 3), (3, 4), (4, 36)], 3, [(0, 1), (1, 1), (2, 1), (3, 1), (4, 5)]⟩ := by kernel_rfl
theorem tyA_39 : tyA Tryz.prog 39 = some ⟨false, 1, 8, [.int .u64 0], 0, [], 17, []⟩ := by kernel_rfl
theorem tyA_40 : tyA Tryz.prog 40 = some ⟨false, 1, 24, [.slice none 0 0], 5, [], 1, []⟩ := by kernel_rfl
theorem tyA_41 : tyA Tryz.prog 41 = some ⟨false, 1, 24, [.slice none 0 0], 43, [], 1, []⟩ := by kernel_rfl
theorem tyA_42 : tyA Tryz.prog 42 = some ⟨true, 6, 96, [.int .i64 0, .int .i64 0, .int .u64 0, .slice none 0 0, .slice none 0 0, .slice none 0 0], 0, [(0, 3), (1, 2), (2, 39), (3, 40), (4, 41), (5, 29)], 3, [(0, 1), (1, 1), (2, 1), (3, 1), (4, 1), (5, 1)]⟩ := by kernel_rfl
theorem tyA_43 : tyA Tryz.prog 43 = some ⟨true, 6, 96, [.int .i64 0, .int .i64 0, .int .u64 0, .slice none 0 0, .slice none 0 0, .slice none 0 0], 0, [(0, 3), (1, 2), (2, 39), (3, 40), (4, 41), (5, 29)], 3, [(0, 1), (1, 1), (2, 1), (3, 1), (4, 1), (5, 1)]⟩ := by kernel_rfl
theorem tyA_48 : tyA Tryz.prog 48 = some ⟨false, 1, 8, [.int .i64 0], 0, [], 13, []⟩ := by kernel_rfl
theorem tyA_72 : tyA Tryz.prog 72 = some ⟨false, 1, 8, [.pointer none], 33, [], 7, []⟩ := by kernel_rfl
theorem tyA_76 : tyA Tryz.prog 76 = some ⟨false, 1, 8, [.pointer none], 38, [], 7, []⟩ := by kernel_rfl
theorem tyA_85 : tyA Tryz.prog 85 = some ⟨false, 1, 8, [.pointer none], 88, [], 7, []⟩ := by kernel_rfl
theorem tyA_86 : tyA Tryz.prog 86 = some ⟨false, 1, 24, [.slice none 0 0], 4, [], 1, []⟩ := by kernel_rfl
theorem tyA_87 : tyA Tryz.prog 87 = some ⟨true, 4, 64, [.slice none 0 0, .int .i64 0, .slice none 0 0, .bool false], 0, [(0, 24), (2, 86), (3, 4)], 3, [(0, 2), (2, 1), (3, 1)]⟩ := by kernel_rfl
theorem tyA_88 : tyA Tryz.prog 88 = some ⟨true, 4, 64, [.slice none 0 0, .int .i64 0, .slice none 0 0, .bool false], 0, [(0, 24), (2, 86), (3, 4)], 3, [(0, 2), (2, 1), (3, 1)]⟩ := by kernel_rfl
theorem tyA_97 : tyA Tryz.prog 97 = some ⟨false, 1, 8, [.pointer none], 103, [], 7, []⟩ := by kernel_rfl
theorem tyA_100 : tyA Tryz.prog 100 = some ⟨true, 3, 40, [.slice none 0 0, .int .i64 0, .int .i64 0], 0, [(0, 40), (1, 3), (2, 48)], 3, [(0, 1), (1, 1), (2, 1)]⟩ := by kernel_rfl
theorem tyA_101 : tyA Tryz.prog 101 = some ⟨true, 3, 40, [.slice none 0 0, .int .i64 0, .int .i64 0], 0, [(0, 40), (1, 3), (2, 48)], 3, [(0, 1), (1, 1), (2, 1)]⟩ := by kernel_rfl
theorem tyA_102 : tyA Tryz.prog 102 = some ⟨true, 5, 72, [.slice none 0 0, .int .i64 0, .slice none 0 0, .int .i64 0, .int .i64 0], 0, [(0, 24), (2, 101)], 3, [(0, 2), (2, 3)]⟩ := by kernel_rfl
theorem tyA_103 : tyA Tryz.prog 103 = some ⟨true, 5, 72, [.slice none 0 0, .int .i64 0, .slice none 0 0, .int .i64 0, .int .i64 0], 0, [(0, 24), (2, 101)], 3, [(0, 2), (2, 3)]⟩ := by kernel_rfl
theorem tyA_104 : tyA Tryz.prog 104 = some ⟨false, 1, 8, [.pointer none], 106, [], 7, []⟩ := by kernel_rfl
theorem tyA_105 : tyA Tryz.prog 105 = some ⟨true, 5, 72, [.slice none 0 0, .int .i64 0, .slice none 0 0, .int .i64 0, .int .i64 0], 0, [(0, 24), (2, 101)], 3, [(0, 2), (2, 3)]⟩ := by kernel_rfl
theorem tyA_106 : tyA Tryz.prog 106 = some ⟨true, 5, 72, [.slice none 0 0, .int .i64 0, .slice none 0 0, .int .i64 0, .int .i64 0], 0, [(0, 24), (2, 101)], 3, [(0, 2), (2, 3)]⟩ := by kernel_rfl
theorem tyA_128 : tyA Tryz.prog 128 = some ⟨false, 1, 8, [.pointer none], 36, [], 7, []⟩ := by kernel_rfl
theorem tyA_137 : tyA Tryz.prog 137 = some ⟨false, 1, 8, [.pointer none], 142, [], 7, []⟩ := by kernel_rfl
theorem tyA_138 : tyA Tryz.prog 138 = some ⟨false, 1, 8, [.pointer none], 140, [], 7, []⟩ := by kernel_rfl
theorem tyA_139 : tyA Tryz.prog 139 = some ⟨true, 2, 32, [.pointer none, .slice none 0 0], 0, [(0, 138), (1, 40)], 3, [(0, 1), (1, 1)]⟩ := by kernel_rfl
theorem tyA_140 : tyA Tryz.prog 140 = some ⟨true, 2, 32, [.pointer none, .slice none 0 0], 0, [(0, 138), (1, 40)], 3, [(0, 1), (1, 1)]⟩ := by kernel_rfl
theorem tyA_141 : tyA Tryz.prog 141 = some ⟨true, 3, 40, [.pointer none, .slice none 0 0, .bool false], 0, [(0, 140), (2, 4)], 3, [(0, 2), (2, 1)]⟩ := by kernel_rfl
theorem tyA_142 : tyA Tryz.prog 142 = some ⟨true, 3, 40, [.pointer none, .slice none 0 0, .bool false], 0, [(0, 140), (2, 4)], 3, [(0, 2), (2, 1)]⟩ := by kernel_rfl
theorem tyA_147 : tyA Tryz.prog 147 = some ⟨false, 1, 8, [.pointer none], 149, [], 7, []⟩ := by kernel_rfl
theorem tyA_148 : tyA Tryz.prog 148 = some ⟨true, 3, 40, [.slice none 0 0, .int .i64 0, .int .i64 0], 0, [(0, 40), (1, 3), (2, 3)], 3, [(0, 1), (1, 1), (2, 1)]⟩ := by kernel_rfl
theorem tyA_149 : tyA Tryz.prog 149 = some ⟨true, 3, 40, [.slice none 0 0, .int .i64 0, .int .i64 0], 0, [(0, 40), (1, 3), (2, 3)], 3, [(0, 1), (1, 1), (2, 1)]⟩ := by kernel_rfl
theorem tyA_167 : tyA Tryz.prog 167 = some ⟨false, 1, 8, [.pointer none], 43, [], 7, []⟩ := by kernel_rfl
theorem tyA_168 : tyA Tryz.prog 168 = some ⟨false, 1, 8, [.pointer none], 170, [], 7, []⟩ := by kernel_rfl
theorem tyA_169 : tyA Tryz.prog 169 = some ⟨true, 4, 64, [.slice none 0 0, .int .i64 0, .slice none 0 0, .int .i64 0], 0, [(0, 24), (2, 31), (3, 3)], 3, [(0, 2), (2, 1), (3, 1)]⟩ := by kernel_rfl
theorem tyA_170 : tyA Tryz.prog 170 = some ⟨true, 4, 64, [.slice none 0 0, .int .i64 0, .slice none 0 0, .int .i64 0], 0, [(0, 24), (2, 31), (3, 3)], 3, [(0, 2), (2, 1), (3, 1)]⟩ := by kernel_rfl
theorem tyA_172 : tyA Tryz.prog 172 = some ⟨false, 1, 8, [.int .u64 0], 0, [], 17, []⟩ := by kernel_rfl
theorem tyA_176 : tyA Tryz.prog 176 = some ⟨false, 1, 8, [.pointer none], 178, [], 7, []⟩ := by kernel_rfl
theorem tyA_177 : tyA Tryz.prog 177 = some ⟨true, 3, 40, [.slice none 0 0, .int .i64 0, .int .i64 0], 0, [(0, 24), (2, 3)], 3, [(0, 2), (2, 1)]⟩ := by kernel_rfl
theorem tyA_178 : tyA Tryz.prog 178 = some ⟨true, 3, 40, [.slice none 0 0, .int .i64 0, .int .i64 0], 0, [(0, 24), (2, 3)], 3, [(0, 2), (2, 1)]⟩ := by kernel_rfl
theorem tyA_186 : tyA Tryz.prog 186 = some ⟨true, 15, 240, [.string ⟨#[]⟩, .string ⟨#[]⟩, .string ⟨#[]⟩, .string ⟨#[]⟩, .string ⟨#[]⟩, .string ⟨#[]⟩, .string ⟨#[]⟩, .string ⟨#[]⟩, .string ⟨#[]⟩, .string ⟨#[]⟩, .string ⟨#[]⟩, .string ⟨#[]⟩, .string ⟨#[]⟩, .string ⟨#[]⟩, .string ⟨#[]⟩], 9, [(15, 9)], 6, []⟩ := by kernel_rfl
theorem tyA_196 : tyA Tryz.prog 196 = some ⟨false, 1, 8, [.pointer none], 5, [], 7, []⟩ := by kernel_rfl
theorem tyA_231 : tyA Tryz.prog 231 = some ⟨false, 1, 8, [.pointer none], 233, [], 7, []⟩ := by kernel_rfl
theorem tyA_232 : tyA Tryz.prog 232 = some ⟨true, 5, 40, [.int .u64 0, .int .u64 0, .int .i64 0, .int .u8 0, .int .i64 0], 0, [(0, 39), (1, 172), (2, 3), (3, 5), (4, 3)], 3, [(0, 1), (1, 1), (2, 1), (3, 1), (4, 1)]⟩ := by kernel_rfl
theorem tyA_233 : tyA Tryz.prog 233 = some ⟨true, 5, 40, [.int .u64 0, .int .u64 0, .int .i64 0, .int .u8 0, .int .i64 0], 0, [(0, 39), (1, 172), (2, 3), (3, 5), (4, 3)], 3, [(0, 1), (1, 1), (2, 1), (3, 1), (4, 1)]⟩ := by kernel_rfl
theorem tyA_257 : tyA Tryz.prog 257 = some ⟨false, 1, 8, [.pointer none], 0, [], 8, []⟩ := by kernel_rfl
theorem tyA_262 : tyA Tryz.prog 262 = some ⟨false, 1, 4, [.int .u32 0], 0, [], 16, []⟩ := by kernel_rfl
theorem tyA_268 : tyA Tryz.prog 268 = some ⟨false, 1, 24, [.slice none 0 0], 2, [], 1, []⟩ := by kernel_rfl
theorem tyA_270 : tyA Tryz.prog 270 = some ⟨false, 1, 24, [.slice none 0 0], 40, [], 1, []⟩ := by kernel_rfl
theorem tyA_272 : tyA Tryz.prog 272 = some ⟨false, 1, 8, [.int .i64 0], 0, [], 13, []⟩ := by kernel_rfl
theorem tyA_281 : tyA Tryz.prog 281 = some ⟨false, 1, 8, [.int .u64 0], 0, [], 17, []⟩ := by kernel_rfl
theorem tyA_285 : tyA Tryz.prog 285 = some ⟨false, 1, 8, [.pointer none], 3, [], 7, []⟩ := by kernel_rfl
theorem tyA_287 : tyA Tryz.prog 287 = some ⟨false, 1, 8, [.pointer none], 281, [], 7, []⟩ := by kernel_rfl
theorem tyA_290 : tyA Tryz.prog 290 = some ⟨true, 4, 40, [.pointer none, .pointer none, .pointer none, .string ⟨#[]⟩], 0, [(0, 17), (1, 17), (2, 17), (3, 9)], 3, [(0, 1), (1, 1), (2, 1), (3, 1)]⟩ := by kernel_rfl
theorem tyA_291 : tyA Tryz.prog 291 = some ⟨true, 4, 40, [.pointer none, .pointer none, .pointer none, .string ⟨#[]⟩], 0, [(0, 17), (1, 17), (2, 17), (3, 9)], 3, [(0, 1), (1, 1), (2, 1), (3, 1)]⟩ := by kernel_rfl
theorem tyA_292 : tyA Tryz.prog 292 = some ⟨true, 0, 0, [], 16, [(0, 16)], 6, []⟩ := by kernel_rfl
theorem tyA_293 : tyA Tryz.prog 293 = some ⟨true, 0, 0, [], 0, [(0, 292)], 3, [(0, 0)]⟩ := by kernel_rfl
theorem tyA_294 : tyA Tryz.prog 294 = some ⟨true, 0, 0, [], 0, [(0, 292)], 3, [(0, 0)]⟩ := by kernel_rfl
theorem tyA_295 : tyA Tryz.prog 295 = some ⟨false, 1, 1, [.int .u8 0], 0, [], 14, []⟩ := by kernel_rfl
theorem tyA_296 : tyA Tryz.prog 296 = some ⟨false, 1, 1, [.int .u8 0], 0, [], 14, []⟩ := by kernel_rfl
theorem tyA_298 : tyA Tryz.prog 298 = some ⟨false, 1, 4, [.int .i32 0], 0, [], 12, []⟩ := by kernel_rfl
theorem tyA_299 : tyA Tryz.prog 299 = some ⟨false, 1, 4, [.int .i32 0], 0, [], 12, []⟩ := by kernel_rfl
theorem ent_5 : Enters Tryz.prog 5 := enters_of Tryz.func5 (by kernel_rfl) (by kernel_rfl)
theorem ent_8 : Enters Tryz.prog 8 := enters_of Tryz.func8 (by kernel_rfl) (by kernel_rfl)
theorem ent_10 : Enters Tryz.prog 10 := enters_of Tryz.func10 (by kernel_rfl) (by kernel_rfl)
theorem ent_19 : Enters Tryz.prog 19 := enters_of Tryz.func19 (by kernel_rfl) (by kernel_rfl)
theorem ent_20 : Enters Tryz.prog 20 := enters_of Tryz.func20 (by kernel_rfl) (by kernel_rfl)
theorem ent_21 : Enters Tryz.prog 21 := enters_of Tryz.func21 (by kernel_rfl) (by kernel_rfl)
theorem ent_22 : Enters Tryz.prog 22 := enters_of Tryz.func22 (by kernel_rfl) (by kernel_rfl)
theorem ent_23 : Enters Tryz.prog 23 := enters_of Tryz.func23 (by kernel_rfl) (by kernel_rfl)
theorem ent_24 : Enters Tryz.prog 24 := enters_of Tryz.func24 (by kernel_rfl) (by kernel_rfl)
theorem ent_33 : Enters Tryz.prog 33 := enters_of Tryz.func33 (by kernel_rfl) (by kernel_rfl)
theorem ent_34 : Enters Tryz.prog 34 := enters_of Tryz.func34 (by kernel_rfl) (by kernel_rfl)
theorem ent_36 : Enters Tryz.prog 36 := enters_of Tryz.func36 (by kernel_rfl) (by kernel_rfl)
theorem ent_38 : Enters Tryz.prog 38 := enters_of Tryz.func38 (by kernel_rfl) (by kernel_rfl)
theorem ent_39 : Enters Tryz.prog 39 := enters_of Tryz.func39 (by kernel_rfl) (by kernel_rfl)
theorem ent_40 : Enters Tryz.prog 40 := enters_of Tryz.func40 (by kernel_rfl) (by kernel_rfl)
theorem ent_41 : Enters Tryz.prog 41 := enters_of Tryz.func41 (by kernel_rfl) (by kernel_rfl)
theorem ent_42 : Enters Tryz.prog 42 := enters_of Tryz.func42 (by kernel_rfl) (by kernel_rfl)
theorem ent_43 : Enters Tryz.prog 43 := enters_of Tryz.func43 (by kernel_rfl) (by kernel_rfl)
theorem ent_48 : Enters Tryz.prog 48 := enters_of Tryz.func48 (by kernel_rfl) (by kernel_rfl)
theorem ent_50 : Enters Tryz.prog 50 := enters_of Tryz.func50 (by kernel_rfl) (by kernel_rfl)
theorem ent_51 : Enters Tryz.prog 51 := enters_of Tryz.func51 (by kernel_rfl) (by kernel_rfl)
theorem ent_52 : Enters Tryz.prog 52 := enters_of Tryz.func52 (by kernel_rfl) (by kernel_rfl)
theorem ent_53 : Enters Tryz.prog 53 := enters_of Tryz.func53 (by kernel_rfl) (by kernel_rfl)
theorem ent_54 : Enters Tryz.prog 54 := enters_of Tryz.func54 (by kernel_rfl) (by kernel_rfl)
theorem ent_55 : Enters Tryz.prog 55 := enters_of Tryz.func55 (by kernel_rfl) (by kernel_rfl)
theorem ent_56 : Enters Tryz.prog 56 := enters_of Tryz.func56 (by kernel_rfl) (by kernel_rfl)
theorem ent_57 : Enters Tryz.prog 57 := enters_of Tryz.func57 (by kernel_rfl) (by kernel_rfl)
theorem ent_65 : Enters Tryz.prog 65 := enters_of Tryz.func65 (by kernel_rfl) (by kernel_rfl)
theorem ent_66 : Enters Tryz.prog 66 := enters_of Tryz.func66 (by kernel_rfl) (by kernel_rfl)
theorem ent_67 : Enters Tryz.prog 67 := enters_of Tryz.func67 (by kernel_rfl) (by kernel_rfl)
theorem ent_68 : Enters Tryz.prog 68 := enters_of Tryz.func68 (by kernel_rfl) (by kernel_rfl)
theorem ent_69 : Enters Tryz.prog 69 := enters_of Tryz.func69 (by kernel_rfl) (by kernel_rfl)
theorem ent_70 : Enters Tryz.prog 70 := enters_of Tryz.func70 (by kernel_rfl) (by kernel_rfl)
theorem ent_71 : Enters Tryz.prog 71 := enters_of Tryz.func71 (by kernel_rfl) (by kernel_rfl)
theorem ent_72 : Enters Tryz.prog 72 := enters_of Tryz.func72 (by kernel_rfl) (by kernel_rfl)
theorem ent_76 : Enters Tryz.prog 76 := enters_of Tryz.func76 (by kernel_rfl) (by kernel_rfl)
theorem ent_81 : Enters Tryz.prog 81 := enters_of Tryz.func81 (by kernel_rfl) (by kernel_rfl)
theorem ent_82 : Enters Tryz.prog 82 := enters_of Tryz.func82 (by kernel_rfl) (by kernel_rfl)
theorem ent_83 : Enters Tryz.prog 83 := enters_of Tryz.func83 (by kernel_rfl) (by kernel_rfl)
theorem ent_84 : Enters Tryz.prog 84 := enters_of Tryz.func84 (by kernel_rfl) (by kernel_rfl)
theorem ent_85 : Enters Tryz.prog 85 := enters_of Tryz.func85 (by kernel_rfl) (by kernel_rfl)
theorem ent_86 : Enters Tryz.prog 86 := enters_of Tryz.func86 (by kernel_rfl) (by kernel_rfl)
theorem ent_87 : Enters Tryz.prog 87 := enters_of Tryz.func87 (by kernel_rfl) (by kernel_rfl)
theorem ent_88 : Enters Tryz.prog 88 := enters_of Tryz.func88 (by kernel_rfl) (by kernel_rfl)
theorem ent_89 : Enters Tryz.prog 89 := enters_of Tryz.func89 (by kernel_rfl) (by kernel_rfl)
theorem ent_90 : Enters Tryz.prog 90 := enters_of Tryz.func90 (by kernel_rfl) (by kernel_rfl)
theorem ent_91 : Enters Tryz.prog 91 := enters_of Tryz.func91 (by kernel_rfl) (by kernel_rfl)
theorem ent_92 : Enters Tryz.prog 92 := enters_of Tryz.func92 (by kernel_rfl) (by kernel_rfl)
theorem ent_93 : Enters Tryz.prog 93 := enters_of Tryz.func93 (by kernel_rfl) (by kernel_rfl)
theorem ent_94 : Enters Tryz.prog 94 := enters_of Tryz.func94 (by kernel_rfl) (by kernel_rfl)
theorem ent_95 : Enters Tryz.prog 95 := enters_of Tryz.func95 (by kernel_rfl) (by kernel_rfl)
theorem ent_96 : Enters Tryz.prog 96 := enters_of Tryz.func96 (by kernel_rfl) (by kernel_rfl)
theorem ent_97 : Enters Tryz.prog 97 := enters_of Tryz.func97 (by kernel_rfl) (by kernel_rfl)
theorem ent_98 : Enters Tryz.prog 98 := enters_of Tryz.func98 (by kernel_rfl) (by kernel_rfl)
theorem ent_99 : Enters Tryz.prog 99 := enters_of Tryz.func99 (by kernel_rfl) (by kernel_rfl)
theorem ent_100 : Enters Tryz.prog 100 := enters_of Tryz.func100 (by kernel_rfl) (by kernel_rfl)
theorem ent_101 : Enters Tryz.prog 101 := enters_of Tryz.func101 (by kernel_rfl) (by kernel_rfl)
theorem ent_102 : Enters Tryz.prog 102 := enters_of Tryz.func102 (by kernel_rfl) (by kernel_rfl)
theorem ent_103 : Enters Tryz.prog 103 := enters_of Tryz.func103 (by kernel_rfl) (by kernel_rfl)
theorem ent_104 : Enters Tryz.prog 104 := enters_of Tryz.func104 (by kernel_rfl) (by kernel_rfl)
theorem ent_123 : Enters Tryz.prog 123 := enters_of Tryz.func123 (by kernel_rfl) (by kernel_rfl)
theorem ent_128 : Enters Tryz.prog 128 := enters_of Tryz.func128 (by kernel_rfl) (by kernel_rfl)
theorem ent_129 : Enters Tryz.prog 129 := enters_of Tryz.func129 (by kernel_rfl) (by kernel_rfl)
theorem ent_130 : Enters Tryz.prog 130 := enters_of Tryz.func130 (by kernel_rfl) (by kernel_rfl)
theorem ent_131 : Enters Tryz.prog 131 := enters_of Tryz.func131 (by kernel_rfl) (by kernel_rfl)
theorem ent_132 : Enters Tryz.prog 132 := enters_of Tryz.func132 (by kernel_rfl) (by kernel_rfl)
theorem ent_133 : Enters Tryz.prog 133 := enters_of Tryz.func133 (by kernel_rfl) (by kernel_rfl)
theorem ent_134 : Enters Tryz.prog 134 := enters_of Tryz.func134 (by kernel_rfl) (by kernel_rfl)
theorem ent_135 : Enters Tryz.prog 135 := enters_of Tryz.func135 (by kernel_rfl) (by kernel_rfl)
theorem ent_136 : Enters Tryz.prog 136 := enters_of Tryz.func136 (by kernel_rfl) (by kernel_rfl)
theorem ent_137 : Enters Tryz.prog 137 := enters_of Tryz.func137 (by kernel_rfl) (by kernel_rfl)
theorem ent_138 : Enters Tryz.prog 138 := enters_of Tryz.func138 (by kernel_rfl) (by kernel_rfl)
theorem ent_139 : Enters Tryz.prog 139 := enters_of Tryz.func139 (by kernel_rfl) (by kernel_rfl)
theorem ent_140 : Enters Tryz.prog 140 := enters_of Tryz.func140 (by kernel_rfl) (by kernel_rfl)
theorem ent_141 : Enters Tryz.prog 141 := enters_of Tryz.func141 (by kernel_rfl) (by kernel_rfl)
theorem ent_142 : Enters Tryz.prog 142 := enters_of Tryz.func142 (by kernel_rfl) (by kernel_rfl)
theorem ent_143 : Enters Tryz.prog 143 := enters_of Tryz.func143 (by kernel_rfl) (by kernel_rfl)
theorem ent_144 : Enters Tryz.prog 144 := enters_of Tryz.func144 (by kernel_rfl) (by kernel_rfl)
theorem ent_145 : Enters Tryz.prog 145 := enters_of Tryz.func145 (by kernel_rfl) (by kernel_rfl)
theorem ent_146 : Enters Tryz.prog 146 := enters_of Tryz.func146 (by kernel_rfl) (by kernel_rfl)
theorem ent_147 : Enters Tryz.prog 147 := enters_of Tryz.func147 (by kernel_rfl) (by kernel_rfl)
theorem ent_148 : Enters Tryz.prog 148 := enters_of Tryz.func148 (by kernel_rfl) (by kernel_rfl)
theorem ent_149 : Enters Tryz.prog 149 := enters_of Tryz.func149 (by kernel_rfl) (by kernel_rfl)
theorem ent_150 : Enters Tryz.prog 150 := enters_of Tryz.func150 (by kernel_rfl) (by kernel_rfl)
theorem ent_151 : Enters Tryz.prog 151 := enters_of Tryz.func151 (by kernel_rfl) (by kernel_rfl)
theorem ent_152 : Enters Tryz.prog 152 := enters_of Tryz.func152 (by kernel_rfl) (by kernel_rfl)
theorem ent_153 : Enters Tryz.prog 153 := enters_of Tryz.func153 (by kernel_rfl) (by kernel_rfl)
theorem ent_154 : Enters Tryz.prog 154 := enters_of Tryz.func154 (by kernel_rfl) (by kernel_rfl)
theorem ent_155 : Enters Tryz.prog 155 := enters_of Tryz.func155 (by kernel_rfl) (by kernel_rfl)
theorem ent_156 : Enters Tryz.prog 156 := enters_of Tryz.func156 (by kernel_rfl) (by kernel_rfl)
theorem ent_157 : Enters Tryz.prog 157 := enters_of Tryz.func157 (by kernel_rfl) (by kernel_rfl)
theorem ent_158 : Enters Tryz.prog 158 := enters_of Tryz.func158 (by kernel_rfl) (by kernel_rfl)
theorem ent_159 : Enters Tryz.prog 159 := enters_of Tryz.func159 (by kernel_rfl) (by kernel_rfl)
theorem ent_178 : Enters Tryz.prog 178 := enters_of Tryz.func178 (by kernel_rfl) (by kernel_rfl)
theorem ent_179 : Enters Tryz.prog 179 := enters_of Tryz.func179 (by kernel_rfl) (by kernel_rfl)
theorem ent_181 : Enters Tryz.prog 181 := enters_of Tryz.func181 (by kernel_rfl) (by kernel_rfl)
theorem ent_182 : Enters Tryz.prog 182 := enters_of Tryz.func182 (by kernel_rfl) (by kernel_rfl)
theorem ent_183 : Enters Tryz.prog 183 := enters_of Tryz.func183 (by kernel_rfl) (by kernel_rfl)
theorem ent_184 : Enters Tryz.prog 184 := enters_of Tryz.func184 (by kernel_rfl) (by kernel_rfl)
theorem ent_185 : Enters Tryz.prog 185 := enters_of Tryz.func185 (by kernel_rfl) (by kernel_rfl)
theorem ent_186 : Enters Tryz.prog 186 := enters_of Tryz.func186 (by kernel_rfl) (by kernel_rfl)
theorem ent_187 : Enters Tryz.prog 187 := enters_of Tryz.func187 (by kernel_rfl) (by kernel_rfl)
theorem ent_188 : Enters Tryz.prog 188 := enters_of Tryz.func188 (by kernel_rfl) (by kernel_rfl)
theorem ent_189 : Enters Tryz.prog 189 := enters_of Tryz.func189 (by kernel_rfl) (by kernel_rfl)
theorem ent_190 : Enters Tryz.prog 190 := enters_of Tryz.func190 (by kernel_rfl) (by kernel_rfl)
theorem ent_191 : Enters Tryz.prog 191 := enters_of Tryz.func191 (by kernel_rfl) (by kernel_rfl)
theorem ent_192 : Enters Tryz.prog 192 := enters_of Tryz.func192 (by kernel_rfl) (by kernel_rfl)
theorem ent_193 : Enters Tryz.prog 193 := enters_of Tryz.func193 (by kernel_rfl) (by kernel_rfl)
theorem ent_194 : Enters Tryz.prog 194 := enters_of Tryz.func194 (by kernel_rfl) (by kernel_rfl)
theorem ent_195 : Enters Tryz.prog 195 := enters_of Tryz.func195 (by kernel_rfl) (by kernel_rfl)
theorem ent_196 : Enters Tryz.prog 196 := enters_of Tryz.func196 (by kernel_rfl) (by kernel_rfl)
theorem ent_197 : Enters Tryz.prog 197 := enters_of Tryz.func197 (by kernel_rfl) (by kernel_rfl)
theorem ent_204 : Enters Tryz.prog 204 := enters_of Tryz.func204 (by kernel_rfl) (by kernel_rfl)
theorem ent_211 : Enters Tryz.prog 211 := enters_of Tryz.func211 (by kernel_rfl) (by kernel_rfl)
theorem ent_212 : Enters Tryz.prog 212 := enters_of Tryz.func212 (by kernel_rfl) (by kernel_rfl)
theorem ent_213 : Enters Tryz.prog 213 := enters_of Tryz.func213 (by kernel_rfl) (by kernel_rfl)
theorem ent_214 : Enters Tryz.prog 214 := enters_of Tryz.func214 (by kernel_rfl) (by kernel_rfl)
theorem ent_215 : Enters Tryz.prog 215 := enters_of Tryz.func215 (by kernel_rfl) (by kernel_rfl)
theorem ent_216 : Enters Tryz.prog 216 := enters_of Tryz.func216 (by kernel_rfl) (by kernel_rfl)
theorem ent_217 : Enters Tryz.prog 217 := enters_of Tryz.func217 (by kernel_rfl) (by kernel_rfl)
theorem ent_218 : Enters Tryz.prog 218 := enters_of Tryz.func218 (by kernel_rfl) (by kernel_rfl)
theorem ent_219 : Enters Tryz.prog 219 := enters_of Tryz.func219 (by kernel_rfl) (by kernel_rfl)
theorem ent_220 : Enters Tryz.prog 220 := enters_of Tryz.func220 (by kernel_rfl) (by kernel_rfl)
theorem ent_221 : Enters Tryz.prog 221 := enters_of Tryz.func221 (by kernel_rfl) (by kernel_rfl)
theorem ent_222 : Enters Tryz.prog 222 := enters_of Tryz.func222 (by kernel_rfl) (by kernel_rfl)
theorem ent_226 : Enters Tryz.prog 226 := enters_of Tryz.func226 (by kernel_rfl) (by kernel_rfl)
theorem ent_228 : Enters Tryz.prog 228 := enters_of Tryz.func228 (by kernel_rfl) (by kernel_rfl)
theorem ent_229 : Enters Tryz.prog 229 := enters_of Tryz.func229 (by kernel_rfl) (by kernel_rfl)
theorem ent_233 : Enters Tryz.prog 233 := enters_of Tryz.func233 (by kernel_rfl) (by kernel_rfl)
theorem ent_234 : Enters Tryz.prog 234 := enters_of Tryz.func234 (by kernel_rfl) (by kernel_rfl)
theorem ent_239 : Enters Tryz.prog 239 := enters_of Tryz.func239 (by kernel_rfl) (by kernel_rfl)
theorem ent_240 : Enters Tryz.prog 240 := enters_of Tryz.func240 (by kernel_rfl) (by kernel_rfl)
theorem ent_241 : Enters Tryz.prog 241 := enters_of Tryz.func241 (by kernel_rfl) (by kernel_rfl)
theorem ent_243 : Enters Tryz.prog 243 := enters_of Tryz.func243 (by kernel_rfl) (by kernel_rfl)
theorem ent_247 : Enters Tryz.prog 247 := enters_of Tryz.func247 (by kernel_rfl) (by kernel_rfl)
theorem ent_248 : Enters Tryz.prog 248 := enters_of Tryz.func248 (by kernel_rfl) (by kernel_rfl)
theorem mixP : Tryz.prog.follows .mixedOrders = true := by kernel_rfl

end Go.Proofs.YtepneflbhpidbaaGreatDoor
