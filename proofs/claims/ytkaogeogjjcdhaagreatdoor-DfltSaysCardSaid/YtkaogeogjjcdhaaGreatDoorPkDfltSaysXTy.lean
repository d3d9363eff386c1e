/- The types as a table, and which functions can be entered (written by gen_ty.py out of the translation). -/
import Derived.Test.YtkaogeogjjcdhaaGreatDoorProg
import Derived.Test.YtkaogeogjjcdhaaGreatDoorPkDfltSaysXAbB
namespace Go.Proofs.YtkaogeogjjcdhaaGreatDoor
open Go.RowKit
set_option linter.unusedVariables false

theorem tyA_2 : tyA Tryz.prog 2 = some ⟨false, 1, 8, [.int .i64 0], 0, [], 13, []⟩ := by kernel_rfl
theorem tyA_3 : tyA Tryz.prog 3 = some ⟨false, 1, 8, [.int .i64 0], 0, [], 13, []⟩ := by kernel_rfl
theorem tyA_4 : tyA Tryz.prog 4 = some ⟨false, 1, 1, [.bool false], 0, [], 4, []⟩ := by kernel_rfl
theorem tyA_5 : tyA Tryz.prog 5 = some ⟨false, 1, 1, [.int .u8 0], 0, [], 14, []⟩ := by kernel_rfl
theorem tyA_6 : tyA Tryz.prog 6 = some ⟨false, 1, 1, [.int .u8 0], 0, [], 14, []⟩ := by kernel_rfl
theorem tyA_7 : tyA Tryz.prog 7 = some ⟨true, 4, 24, [.int .i64 0, .int .i64 0, .bool false, .int .u8 0], 0, [(0, 2), (1, 3), (2, 4), (3, 6)], 3, [(0, 1), (1, 1), (2, 1), (3, 1)]⟩ := by kernel_rfl
theorem tyA_8 : tyA Tryz.prog 8 = some ⟨true, 4, 24, [.int .i64 0, .int .i64 0, .bool false, .int .u8 0], 0, [(0, 2), (1, 3), (2, 4), (3, 6)], 3, [(0, 1), (1, 1), (2, 1), (3, 1)]⟩ := by kernel_rfl
theorem tyA_9 : tyA Tryz.prog 9 = some ⟨false, 1, 16, [.string ⟨#[]⟩], 0, [], 2, []⟩ := by kernel_rfl
theorem tyA_10 : tyA Tryz.prog 10 = some ⟨false, 1, 16, [.string ⟨#[]⟩], 0, [], 2, []⟩ := by kernel_rfl
theorem tyA_11 : tyA Tryz.prog 11 = some ⟨false, 1, 16, [.string ⟨#[]⟩], 0, [], 2, []⟩ := by kernel_rfl
theorem tyA_12 : tyA Tryz.prog 12 = some ⟨false, 1, 8, [.int .u64 0], 0, [], 17, []⟩ := by kernel_rfl
theorem tyA_13 : tyA Tryz.prog 13 = some ⟨true, 2, 24, [.string ⟨#[]⟩, .int .u64 0], 0, [(0, 9), (1, 12)], 3, [(0, 1), (1, 1)]⟩ := by kernel_rfl
theorem tyA_14 : tyA Tryz.prog 14 = some ⟨true, 2, 24, [.string ⟨#[]⟩, .int .u64 0], 0, [(0, 9), (1, 12)], 3, [(0, 1), (1, 1)]⟩ := by kernel_rfl
theorem tyA_15 : tyA Tryz.prog 15 = some ⟨false, 1, 8, [.pointer none], 344, [], 7, []⟩ := by kernel_rfl
theorem tyA_16 : tyA Tryz.prog 16 = some ⟨false, 1, 8, [.pointer none], 347, [], 7, []⟩ := by kernel_rfl
theorem tyA_17 : tyA Tryz.prog 17 = some ⟨false, 1, 8, [.pointer none], 354, [], 7, []⟩ := by kernel_rfl
theorem tyA_18 : tyA Tryz.prog 18 = some ⟨true, 1, 8, [.pointer none], 0, [(0, 17)], 3, [(0, 1)]⟩ := by kernel_rfl
theorem tyA_19 : tyA Tryz.prog 19 = some ⟨true, 1, 8, [.pointer none], 0, [(0, 17)], 3, [(0, 1)]⟩ := by kernel_rfl
theorem tyA_21 : tyA Tryz.prog 21 = some ⟨false, 1, 4, [.int .i32 0], 0, [], 12, []⟩ := by kernel_rfl
theorem tyA_22 : tyA Tryz.prog 22 = some ⟨false, 1, 24, [.slice none 0 0], 33, [], 1, []⟩ := by kernel_rfl
theorem tyA_23 : tyA Tryz.prog 23 = some ⟨true, 2, 32, [.slice none 0 0, .int .i64 0], 0, [(0, 22), (1, 3)], 3, [(0, 1), (1, 1)]⟩ := by kernel_rfl
theorem tyA_24 : tyA Tryz.prog 24 = some ⟨true, 2, 32, [.slice none 0 0, .int .i64 0], 0, [(0, 22), (1, 3)], 3, [(0, 1), (1, 1)]⟩ := by kernel_rfl
theorem tyA_29 : tyA Tryz.prog 29 = some ⟨false, 1, 24, [.slice none 0 0], 9, [], 1, []⟩ := by kernel_rfl
theorem tyA_30 : tyA Tryz.prog 30 = some ⟨false, 1, 24, [.slice none 0 0], 38, [], 1, []⟩ := by kernel_rfl
theorem tyA_31 : tyA Tryz.prog 31 = some ⟨false, 1, 24, [.slice none 0 0], 3, [], 1, []⟩ := by kernel_rfl
theorem tyA_32 : tyA Tryz.prog 32 = some ⟨true, 10, 160, [.int .i64 0, .string ⟨#[]⟩, .slice none 0 0, .slice none 0 0, .slice none 0 0, .bool false, .string ⟨#[]⟩, .int .i64 0, .int .i64 0, .slice none 0 0], 0, [(0, 3), (1, 9), (2, 29), (3, 30), (4, 29), (5, 4), (6, 9), (7, 3), (8, 3), (9, 31)], 3, [(0, 1), (1, 1), (2, 1), (3, 1), (4, 1), (5, 1), (6, 1), (7, 1), (8, 1), (9, 1)]⟩ := by kernel_rfl
theorem tyA_33 : tyA Tryz.prog 33 = some ⟨true, 10, 160, [.int .i64 0, .string ⟨#[]⟩, .slice none 0 0, .slice none 0 0, .slice none 0 0, .bool false, .string ⟨#[]⟩, .int .i64 0, .int .i64 0, .slice none 0 0], 0, [(0, 3), (1, 9), (2, 29), (3, 30), (4, 29), (5, 4), (6, 9), (7, 3), (8, 3), (9, 31)], 3, [(0, 1), (1, 1), (2, 1), (3, 1), (4, 1), (5, 1), (6, 1), (7, 1), (8, 1), (9, 1)]⟩ := by kernel_rfl
theorem tyA_34 : tyA Tryz.prog 34 = some ⟨false, 1, 24, [.slice none 0 0], 36, [], 1, []⟩ := by kernel_rfl
theorem tyA_35 : tyA Tryz.prog 35 = some ⟨true, 5, 80, [.int .i64 0, .int .i64 0, .string ⟨#[]⟩, .slice none 0 0, .slice none 0 0], 0, [(0, 3), (1, 2), (2, 9), (3, 34), (4, 29)], 3, [(0, 1), (1, 1), (2, 1), (3, 1), (4, 1)]⟩ := by kernel_rfl
theorem tyA_36 : tyA Tryz.prog 36 = some ⟨true, 5, 80, [.int .i64 0, .int .i64 0, .string ⟨#[]⟩, .slice none 0 0, .slice none 0 0], 0, [(0, 3), (1, 2), (2, 9), (3, 34), (4, 29)], 3, [(0, 1), (1, 1), (2, 1), (3, 1), (4, 1)]⟩ := by kernel_rfl
theorem tyA_37 : tyA Tryz.prog 37 = some ⟨true, 9, 136, [.string ⟨#[]⟩, .slice none 0 0, .int .i64 0, .bool false, .int .i64 0, .int .i64 0, .string ⟨#[]⟩, .slice none 0 0, .slice none 0 0], 0, [(0, 9), (1, 29), (2, 3), (3, 4), (4, 36)], 3, [(0, 1), (1, 1), (2, 1), (3, 1), (4, 5)]⟩ := by kernel_rfl
theorem tyA_38 : tyA Tryz.prog 38 = some ⟨true, 9, 136, [.string ⟨#[]⟩, .slice none 0 0, .int .i64 0, .bool false, .int .i64 0, .int .i64 0, .string ⟨#[]⟩, .slice none 0 0, .slice none 0 0], 0, [(0, 9), (1, 29), (2, 3), (3, 4), (4, 36)], 3, [(0, 1), (1, 1), (2, 1), (3, 1), (4, 5)]⟩ := by kernel_rfl
theorem tyA_39 : tyA Tryz.prog 39 = some ⟨false, 1, 8, [.int .u64 0], 0, [], 17, []⟩ := by kernel_rfl
theorem tyA_40 : tyA Tryz.prog 40 = some ⟨false, 1, 24, [.slice none 0 0], 5, [], 1, []⟩ := by kernel_rfl
theorem tyA_41 : tyA Tryz.prog 41 = some ⟨false, 1, 24, [.slice none 0 0], 43, [], 1, []⟩ := by kernel_rfl
theorem tyA_42 : tyA Tryz.prog 42 = some ⟨true, 6, 96, [.int .i64 0, .int .i64 0, .int .u64 0, .slice none 0 0, .slice none 0 0, .slice none 0 0], 0, [(0, 3), (1, 2), (2, 39), (3, 40), (4, 41), (5, 29)], 3, [(0, 1), (1, 1), (2, 1), (3, 1), (4, 1), (5, 1)]⟩ := by kernel_rfl
theorem tyA_43 : tyA Tryz.prog 43 = some ⟨true, 6, 96, [.int .i64 0, .int .i64 0, .int .u64 0, .slice none 0 0, .slice none 0 0, .slice none 0 0], 0, [(0, 3), (1, 2), (2, 39), (3, 40), (4, 41), (5, 29)], 3, [(0, 1), (1, 1), (2, 1), (3, 1), (4, 1), (5, 1)]⟩ := by kernel_rfl
theorem tyA_48 : tyA Tryz.prog 48 = some ⟨false, 1, 8, [.int .i64 0], 0, [], 13, []⟩ := by kernel_rfl
theorem tyA_89 : tyA Tryz.prog 89 = some ⟨false, 1, 8, [.pointer none], 33, [], 7, []⟩ := by kernel_rfl
theorem tyA_93 : tyA Tryz.prog 93 = some ⟨false, 1, 8, [.pointer none], 38, [], 7, []⟩ := by kernel_rfl
theorem tyA_107 : tyA Tryz.prog 107 = some ⟨false, 1, 8, [.pointer none], 109, [], 7, []⟩ := by kernel_rfl
theorem tyA_108 : tyA Tryz.prog 108 = some ⟨true, 3, 40, [.slice none 0 0, .int .i64 0, .int .i64 0], 0, [(0, 24), (2, 3)], 3, [(0, 2), (2, 1)]⟩ := by kernel_rfl
theorem tyA_109 : tyA Tryz.prog 109 = some ⟨true, 3, 40, [.slice none 0 0, .int .i64 0, .int .i64 0], 0, [(0, 24), (2, 3)], 3, [(0, 2), (2, 1)]⟩ := by kernel_rfl
theorem tyA_113 : tyA Tryz.prog 113 = some ⟨false, 1, 8, [.pointer none], 117, [], 7, []⟩ := by kernel_rfl
theorem tyA_114 : tyA Tryz.prog 114 = some ⟨true, 3, 40, [.slice none 0 0, .int .i64 0, .int .i64 0], 0, [(0, 40), (1, 3), (2, 48)], 3, [(0, 1), (1, 1), (2, 1)]⟩ := by kernel_rfl
theorem tyA_115 : tyA Tryz.prog 115 = some ⟨true, 3, 40, [.slice none 0 0, .int .i64 0, .int .i64 0], 0, [(0, 40), (1, 3), (2, 48)], 3, [(0, 1), (1, 1), (2, 1)]⟩ := by kernel_rfl
theorem tyA_116 : tyA Tryz.prog 116 = some ⟨true, 5, 72, [.slice none 0 0, .int .i64 0, .slice none 0 0, .int .i64 0, .int .i64 0], 0, [(0, 24), (2, 115)], 3, [(0, 2), (2, 3)]⟩ := by kernel_rfl
theorem tyA_117 : tyA Tryz.prog 117 = some ⟨true, 5, 72, [.slice none 0 0, .int .i64 0, .slice none 0 0, .int .i64 0, .int .i64 0], 0, [(0, 24), (2, 115)], 3, [(0, 2), (2, 3)]⟩ := by kernel_rfl
theorem tyA_119 : tyA Tryz.prog 119 = some ⟨false, 1, 8, [.pointer none], 122, [], 7, []⟩ := by kernel_rfl
theorem tyA_120 : tyA Tryz.prog 120 = some ⟨false, 1, 24, [.slice none 0 0], 4, [], 1, []⟩ := by kernel_rfl
theorem tyA_121 : tyA Tryz.prog 121 = some ⟨true, 4, 64, [.slice none 0 0, .int .i64 0, .slice none 0 0, .bool false], 0, [(0, 24), (2, 120), (3, 4)], 3, [(0, 2), (2, 1), (3, 1)]⟩ := by kernel_rfl
theorem tyA_122 : tyA Tryz.prog 122 = some ⟨true, 4, 64, [.slice none 0 0, .int .i64 0, .slice none 0 0, .bool false], 0, [(0, 24), (2, 120), (3, 4)], 3, [(0, 2), (2, 1), (3, 1)]⟩ := by kernel_rfl
theorem tyA_131 : tyA Tryz.prog 131 = some ⟨false, 1, 8, [.pointer none], 135, [], 7, []⟩ := by kernel_rfl
theorem tyA_134 : tyA Tryz.prog 134 = some ⟨true, 5, 72, [.slice none 0 0, .int .i64 0, .slice none 0 0, .int .i64 0, .int .i64 0], 0, [(0, 24), (2, 115)], 3, [(0, 2), (2, 3)]⟩ := by kernel_rfl
theorem tyA_135 : tyA Tryz.prog 135 = some ⟨true, 5, 72, [.slice none 0 0, .int .i64 0, .slice none 0 0, .int .i64 0, .int .i64 0], 0, [(0, 24), (2, 115)], 3, [(0, 2), (2, 3)]⟩ := by kernel_rfl
theorem tyA_136 : tyA Tryz.prog 136 = some ⟨false, 1, 8, [.pointer none], 138, [], 7, []⟩ := by kernel_rfl
theorem tyA_137 : tyA Tryz.prog 137 = some ⟨true, 4, 64, [.slice none 0 0, .int .i64 0, .slice none 0 0, .int .i64 0], 0, [(0, 24), (2, 31), (3, 3)], 3, [(0, 2), (2, 1), (3, 1)]⟩ := by kernel_rfl
theorem tyA_138 : tyA Tryz.prog 138 = some ⟨true, 4, 64, [.slice none 0 0, .int .i64 0, .slice none 0 0, .int .i64 0], 0, [(0, 24), (2, 31), (3, 3)], 3, [(0, 2), (2, 1), (3, 1)]⟩ := by kernel_rfl
theorem tyA_154 : tyA Tryz.prog 154 = some ⟨false, 1, 8, [.int .u64 0], 0, [], 17, []⟩ := by kernel_rfl
theorem tyA_156 : tyA Tryz.prog 156 = some ⟨true, 16, 16, [.int .u8 0, .int .u8 0, .int .u8 0, .int .u8 0, .int .u8 0, .int .u8 0, .int .u8 0, .int .u8 0, .int .u8 0, .int .u8 0, .int .u8 0, .int .u8 0, .int .u8 0, .int .u8 0, .int .u8 0, .int .u8 0], 5, [(16, 5)], 6, []⟩ := by kernel_rfl
theorem tyA_157 : tyA Tryz.prog 157 = some ⟨false, 1, 8, [.pointer none], 159, [], 7, []⟩ := by kernel_rfl
theorem tyA_158 : tyA Tryz.prog 158 = some ⟨true, 4, 80, [.slice none 0 0, .int .i64 0, .slice none 0 0, .slice none 0 0], 0, [(0, 24), (2, 120), (3, 40)], 3, [(0, 2), (2, 1), (3, 1)]⟩ := by kernel_rfl
theorem tyA_159 : tyA Tryz.prog 159 = some ⟨true, 4, 80, [.slice none 0 0, .int .i64 0, .slice none 0 0, .slice none 0 0], 0, [(0, 24), (2, 120), (3, 40)], 3, [(0, 2), (2, 1), (3, 1)]⟩ := by kernel_rfl
theorem tyA_170 : tyA Tryz.prog 170 = some ⟨false, 1, 4, [.int .u32 0], 0, [], 16, []⟩ := by kernel_rfl
theorem tyA_180 : tyA Tryz.prog 180 = some ⟨false, 1, 8, [.pointer none], 182, [], 7, []⟩ := by kernel_rfl
theorem tyA_181 : tyA Tryz.prog 181 = some ⟨true, 3, 40, [.slice none 0 0, .int .i64 0, .int .i64 0], 0, [(0, 40), (1, 3), (2, 3)], 3, [(0, 1), (1, 1), (2, 1)]⟩ := by kernel_rfl
theorem tyA_182 : tyA Tryz.prog 182 = some ⟨true, 3, 40, [.slice none 0 0, .int .i64 0, .int .i64 0], 0, [(0, 40), (1, 3), (2, 3)], 3, [(0, 1), (1, 1), (2, 1)]⟩ := by kernel_rfl
theorem tyA_196 : tyA Tryz.prog 196 = some ⟨false, 1, 8, [.pointer none], 43, [], 7, []⟩ := by kernel_rfl
theorem tyA_202 : tyA Tryz.prog 202 = some ⟨false, 1, 8, [.pointer none], 36, [], 7, []⟩ := by kernel_rfl
theorem tyA_208 : tyA Tryz.prog 208 = some ⟨false, 1, 8, [.pointer none], 213, [], 7, []⟩ := by kernel_rfl
theorem tyA_209 : tyA Tryz.prog 209 = some ⟨false, 1, 8, [.pointer none], 211, [], 7, []⟩ := by kernel_rfl
theorem tyA_210 : tyA Tryz.prog 210 = some ⟨true, 2, 32, [.pointer none, .slice none 0 0], 0, [(0, 209), (1, 40)], 3, [(0, 1), (1, 1)]⟩ := by kernel_rfl
theorem tyA_211 : tyA Tryz.prog 211 = some ⟨true, 2, 32, [.pointer none, .slice none 0 0], 0, [(0, 209), (1, 40)], 3, [(0, 1), (1, 1)]⟩ := by kernel_rfl
theorem tyA_212 : tyA Tryz.prog 212 = some ⟨true, 3, 40, [.pointer none, .slice none 0 0, .bool false], 0, [(0, 211), (2, 4)], 3, [(0, 2), (2, 1)]⟩ := by kernel_rfl
theorem tyA_213 : tyA Tryz.prog 213 = some ⟨true, 3, 40, [.pointer none, .slice none 0 0, .bool false], 0, [(0, 211), (2, 4)], 3, [(0, 2), (2, 1)]⟩ := by kernel_rfl
theorem tyA_229 : tyA Tryz.prog 229 = some ⟨false, 1, 8, [.pointer none], 231, [], 7, []⟩ := by kernel_rfl
theorem tyA_230 : tyA Tryz.prog 230 = some ⟨true, 3, 40, [.slice none 0 0, .int .i64 0, .int .i64 0], 0, [(0, 24), (2, 3)], 3, [(0, 2), (2, 1)]⟩ := by kernel_rfl
theorem tyA_231 : tyA Tryz.prog 231 = some ⟨true, 3, 40, [.slice none 0 0, .int .i64 0, .int .i64 0], 0, [(0, 24), (2, 3)], 3, [(0, 2), (2, 1)]⟩ := by kernel_rfl
theorem tyA_241 : tyA Tryz.prog 241 = some ⟨false, 1, 8, [.int .u64 0], 0, [], 17, []⟩ := by kernel_rfl
theorem tyA_264 : tyA Tryz.prog 264 = some ⟨true, 15, 240, [.string ⟨#[]⟩, .string ⟨#[]⟩, .string ⟨#[]⟩, .string ⟨#[]⟩, .string ⟨#[]⟩, .string ⟨#[]⟩, .string ⟨#[]⟩, .string ⟨#[]⟩, .string ⟨#[]⟩, .string ⟨#[]⟩, .string ⟨#[]⟩, .string ⟨#[]⟩, .string ⟨#[]⟩, .string ⟨#[]⟩, .string ⟨#[]⟩], 9, [(15, 9)], 6, []⟩ := by kernel_rfl
theorem tyA_268 : tyA Tryz.prog 268 = some ⟨false, 1, 8, [.pointer none], 5, [], 7, []⟩ := by kernel_rfl
theorem tyA_293 : tyA Tryz.prog 293 = some ⟨false, 1, 8, [.pointer none], 295, [], 7, []⟩ := by kernel_rfl
theorem tyA_294 : tyA Tryz.prog 294 = some ⟨true, 5, 40, [.int .u64 0, .int .u64 0, .int .i64 0, .int .u8 0, .int .i64 0], 0, [(0, 39), (1, 154), (2, 3), (3, 5), (4, 3)], 3, [(0, 1), (1, 1), (2, 1), (3, 1), (4, 1)]⟩ := by kernel_rfl
theorem tyA_295 : tyA Tryz.prog 295 = some ⟨true, 5, 40, [.int .u64 0, .int .u64 0, .int .i64 0, .int .u8 0, .int .i64 0], 0, [(0, 39), (1, 154), (2, 3), (3, 5), (4, 3)], 3, [(0, 1), (1, 1), (2, 1), (3, 1), (4, 1)]⟩ := by kernel_rfl
theorem tyA_311 : tyA Tryz.prog 311 = some ⟨false, 1, 24, [.slice none 0 0], 2, [], 1, []⟩ := by kernel_rfl
theorem tyA_313 : tyA Tryz.prog 313 = some ⟨false, 1, 24, [.slice none 0 0], 40, [], 1, []⟩ := by kernel_rfl
theorem tyA_321 : tyA Tryz.prog 321 = some ⟨false, 1, 8, [.pointer none], 0, [], 8, []⟩ := by kernel_rfl
theorem tyA_326 : tyA Tryz.prog 326 = some ⟨false, 1, 8, [.int .i64 0], 0, [], 13, []⟩ := by kernel_rfl
theorem tyA_334 : tyA Tryz.prog 334 = some ⟨false, 1, 8, [.int .u64 0], 0, [], 17, []⟩ := by kernel_rfl
theorem tyA_338 : tyA Tryz.prog 338 = some ⟨false, 1, 8, [.pointer none], 3, [], 7, []⟩ := by kernel_rfl
theorem tyA_340 : tyA Tryz.prog 340 = some ⟨false, 1, 8, [.pointer none], 334, [], 7, []⟩ := by kernel_rfl
theorem tyA_343 : tyA Tryz.prog 343 = some ⟨true, 4, 40, [.pointer none, .pointer none, .pointer none, .string ⟨#[]⟩], 0, [(0, 17), (1, 17), (2, 17), (3, 9)], 3, [(0, 1), (1, 1), (2, 1), (3, 1)]⟩ := by kernel_rfl
theorem tyA_344 : tyA Tryz.prog 344 = some ⟨true, 4, 40, [.pointer none, .pointer none, .pointer none, .string ⟨#[]⟩], 0, [(0, 17), (1, 17), (2, 17), (3, 9)], 3, [(0, 1), (1, 1), (2, 1), (3, 1)]⟩ := by kernel_rfl
theorem tyA_345 : tyA Tryz.prog 345 = some ⟨true, 0, 0, [], 16, [(0, 16)], 6, []⟩ := by kernel_rfl
theorem tyA_346 : tyA Tryz.prog 346 = some ⟨true, 0, 0, [], 0, [(0, 345)], 3, [(0, 0)]⟩ := by kernel_rfl
theorem tyA_347 : tyA Tryz.prog 347 = some ⟨true, 0, 0, [], 0, [(0, 345)], 3, [(0, 0)]⟩ := by kernel_rfl
theorem tyA_348 : tyA Tryz.prog 348 = some ⟨false, 1, 1, [.int .u8 0], 0, [], 14, []⟩ := by kernel_rfl
theorem tyA_349 : tyA Tryz.prog 349 = some ⟨false, 1, 1, [.int .u8 0], 0, [], 14, []⟩ := by kernel_rfl
theorem tyA_351 : tyA Tryz.prog 351 = some ⟨false, 1, 4, [.int .i32 0], 0, [], 12, []⟩ := by kernel_rfl
theorem tyA_352 : tyA Tryz.prog 352 = some ⟨false, 1, 4, [.int .i32 0], 0, [], 12, []⟩ := by kernel_rfl
theorem ent_6 : Enters Tryz.prog 6 := enters_of Tryz.func6 (by kernel_rfl) (by kernel_rfl)
theorem ent_14 : Enters Tryz.prog 14 := enters_of Tryz.func14 (by kernel_rfl) (by kernel_rfl)
theorem ent_22 : Enters Tryz.prog 22 := enters_of Tryz.func22 (by kernel_rfl) (by kernel_rfl)
theorem ent_28 : Enters Tryz.prog 28 := enters_of Tryz.func28 (by kernel_rfl) (by kernel_rfl)
theorem ent_29 : Enters Tryz.prog 29 := enters_of Tryz.func29 (by kernel_rfl) (by kernel_rfl)
theorem ent_30 : Enters Tryz.prog 30 := enters_of Tryz.func30 (by kernel_rfl) (by kernel_rfl)
theorem ent_31 : Enters Tryz.prog 31 := enters_of Tryz.func31 (by kernel_rfl) (by kernel_rfl)
theorem ent_44 : Enters Tryz.prog 44 := enters_of Tryz.func44 (by kernel_rfl) (by kernel_rfl)
theorem ent_51 : Enters Tryz.prog 51 := enters_of Tryz.func51 (by kernel_rfl) (by kernel_rfl)
theorem ent_52 : Enters Tryz.prog 52 := enters_of Tryz.func52 (by kernel_rfl) (by kernel_rfl)
theorem ent_54 : Enters Tryz.prog 54 := enters_of Tryz.func54 (by kernel_rfl) (by kernel_rfl)
theorem ent_57 : Enters Tryz.prog 57 := enters_of Tryz.func57 (by kernel_rfl) (by kernel_rfl)
theorem ent_61 : Enters Tryz.prog 61 := enters_of Tryz.func61 (by kernel_rfl) (by kernel_rfl)
theorem ent_66 : Enters Tryz.prog 66 := enters_of Tryz.func66 (by kernel_rfl) (by kernel_rfl)
theorem ent_68 : Enters Tryz.prog 68 := enters_of Tryz.func68 (by kernel_rfl) (by kernel_rfl)
theorem ent_75 : Enters Tryz.prog 75 := enters_of Tryz.func75 (by kernel_rfl) (by kernel_rfl)
theorem ent_76 : Enters Tryz.prog 76 := enters_of Tryz.func76 (by kernel_rfl) (by kernel_rfl)
theorem ent_77 : Enters Tryz.prog 77 := enters_of Tryz.func77 (by kernel_rfl) (by kernel_rfl)
theorem ent_78 : Enters Tryz.prog 78 := enters_of Tryz.func78 (by kernel_rfl) (by kernel_rfl)
theorem ent_79 : Enters Tryz.prog 79 := enters_of Tryz.func79 (by kernel_rfl) (by kernel_rfl)
theorem ent_80 : Enters Tryz.prog 80 := enters_of Tryz.func80 (by kernel_rfl) (by kernel_rfl)
theorem ent_87 : Enters Tryz.prog 87 := enters_of Tryz.func87 (by kernel_rfl) (by kernel_rfl)
theorem ent_94 : Enters Tryz.prog 94 := enters_of Tryz.func94 (by kernel_rfl) (by kernel_rfl)
theorem ent_95 : Enters Tryz.prog 95 := enters_of Tryz.func95 (by kernel_rfl) (by kernel_rfl)
theorem ent_96 : Enters Tryz.prog 96 := enters_of Tryz.func96 (by kernel_rfl) (by kernel_rfl)
theorem ent_97 : Enters Tryz.prog 97 := enters_of Tryz.func97 (by kernel_rfl) (by kernel_rfl)
theorem ent_98 : Enters Tryz.prog 98 := enters_of Tryz.func98 (by kernel_rfl) (by kernel_rfl)
theorem ent_99 : Enters Tryz.prog 99 := enters_of Tryz.func99 (by kernel_rfl) (by kernel_rfl)
theorem ent_100 : Enters Tryz.prog 100 := enters_of Tryz.func100 (by kernel_rfl) (by kernel_rfl)
theorem ent_104 : Enters Tryz.prog 104 := enters_of Tryz.func104 (by kernel_rfl) (by kernel_rfl)
theorem ent_115 : Enters Tryz.prog 115 := enters_of Tryz.func115 (by kernel_rfl) (by kernel_rfl)
theorem ent_116 : Enters Tryz.prog 116 := enters_of Tryz.func116 (by kernel_rfl) (by kernel_rfl)
theorem ent_117 : Enters Tryz.prog 117 := enters_of Tryz.func117 (by kernel_rfl) (by kernel_rfl)
theorem ent_118 : Enters Tryz.prog 118 := enters_of Tryz.func118 (by kernel_rfl) (by kernel_rfl)
theorem ent_119 : Enters Tryz.prog 119 := enters_of Tryz.func119 (by kernel_rfl) (by kernel_rfl)
theorem ent_120 : Enters Tryz.prog 120 := enters_of Tryz.func120 (by kernel_rfl) (by kernel_rfl)
theorem ent_121 : Enters Tryz.prog 121 := enters_of Tryz.func121 (by kernel_rfl) (by kernel_rfl)
theorem ent_122 : Enters Tryz.prog 122 := enters_of Tryz.func122 (by kernel_rfl) (by kernel_rfl)
theorem ent_123 : Enters Tryz.prog 123 := enters_of Tryz.func123 (by kernel_rfl) (by kernel_rfl)
theorem ent_124 : Enters Tryz.prog 124 := enters_of Tryz.func124 (by kernel_rfl) (by kernel_rfl)
theorem ent_125 : Enters Tryz.prog 125 := enters_of Tryz.func125 (by kernel_rfl) (by kernel_rfl)
theorem ent_126 : Enters Tryz.prog 126 := enters_of Tryz.func126 (by kernel_rfl) (by kernel_rfl)
theorem ent_127 : Enters Tryz.prog 127 := enters_of Tryz.func127 (by kernel_rfl) (by kernel_rfl)
theorem ent_128 : Enters Tryz.prog 128 := enters_of Tryz.func128 (by kernel_rfl) (by kernel_rfl)
theorem ent_129 : Enters Tryz.prog 129 := enters_of Tryz.func129 (by kernel_rfl) (by kernel_rfl)
theorem ent_130 : Enters Tryz.prog 130 := enters_of Tryz.func130 (by kernel_rfl) (by kernel_rfl)
theorem ent_131 : Enters Tryz.prog 131 := enters_of Tryz.func131 (by kernel_rfl) (by kernel_rfl)
theorem ent_132 : Enters Tryz.prog 132 := enters_of Tryz.func132 (by kernel_rfl) (by kernel_rfl)
theorem ent_154 : Enters Tryz.prog 154 := enters_of Tryz.func154 (by kernel_rfl) (by kernel_rfl)
theorem ent_155 : Enters Tryz.prog 155 := enters_of Tryz.func155 (by kernel_rfl) (by kernel_rfl)
theorem ent_163 : Enters Tryz.prog 163 := enters_of Tryz.func163 (by kernel_rfl) (by kernel_rfl)
theorem ent_178 : Enters Tryz.prog 178 := enters_of Tryz.func178 (by kernel_rfl) (by kernel_rfl)
theorem ent_179 : Enters Tryz.prog 179 := enters_of Tryz.func179 (by kernel_rfl) (by kernel_rfl)
theorem ent_180 : Enters Tryz.prog 180 := enters_of Tryz.func180 (by kernel_rfl) (by kernel_rfl)
theorem ent_181 : Enters Tryz.prog 181 := enters_of Tryz.func181 (by kernel_rfl) (by kernel_rfl)
theorem ent_182 : Enters Tryz.prog 182 := enters_of Tryz.func182 (by kernel_rfl) (by kernel_rfl)
theorem ent_183 : Enters Tryz.prog 183 := enters_of Tryz.func183 (by kernel_rfl) (by kernel_rfl)
theorem ent_184 : Enters Tryz.prog 184 := enters_of Tryz.func184 (by kernel_rfl) (by kernel_rfl)
theorem ent_185 : Enters Tryz.prog 185 := enters_of Tryz.func185 (by kernel_rfl) (by kernel_rfl)
theorem ent_186 : Enters Tryz.prog 186 := enters_of Tryz.func186 (by kernel_rfl) (by kernel_rfl)
theorem ent_187 : Enters Tryz.prog 187 := enters_of Tryz.func187 (by kernel_rfl) (by kernel_rfl)
theorem ent_188 : Enters Tryz.prog 188 := enters_of Tryz.func188 (by kernel_rfl) (by kernel_rfl)
theorem ent_198 : Enters Tryz.prog 198 := enters_of Tryz.func198 (by kernel_rfl) (by kernel_rfl)
theorem ent_199 : Enters Tryz.prog 199 := enters_of Tryz.func199 (by kernel_rfl) (by kernel_rfl)
theorem ent_200 : Enters Tryz.prog 200 := enters_of Tryz.func200 (by kernel_rfl) (by kernel_rfl)
theorem ent_201 : Enters Tryz.prog 201 := enters_of Tryz.func201 (by kernel_rfl) (by kernel_rfl)
theorem ent_202 : Enters Tryz.prog 202 := enters_of Tryz.func202 (by kernel_rfl) (by kernel_rfl)
theorem ent_203 : Enters Tryz.prog 203 := enters_of Tryz.func203 (by kernel_rfl) (by kernel_rfl)
theorem ent_204 : Enters Tryz.prog 204 := enters_of Tryz.func204 (by kernel_rfl) (by kernel_rfl)
theorem ent_205 : Enters Tryz.prog 205 := enters_of Tryz.func205 (by kernel_rfl) (by kernel_rfl)
theorem ent_206 : Enters Tryz.prog 206 := enters_of Tryz.func206 (by kernel_rfl) (by kernel_rfl)
theorem ent_207 : Enters Tryz.prog 207 := enters_of Tryz.func207 (by kernel_rfl) (by kernel_rfl)
theorem ent_208 : Enters Tryz.prog 208 := enters_of Tryz.func208 (by kernel_rfl) (by kernel_rfl)
theorem ent_209 : Enters Tryz.prog 209 := enters_of Tryz.func209 (by kernel_rfl) (by kernel_rfl)
theorem ent_210 : Enters Tryz.prog 210 := enters_of Tryz.func210 (by kernel_rfl) (by kernel_rfl)
theorem ent_211 : Enters Tryz.prog 211 := enters_of Tryz.func211 (by kernel_rfl) (by kernel_rfl)
theorem ent_212 : Enters Tryz.prog 212 := enters_of Tryz.func212 (by kernel_rfl) (by kernel_rfl)
theorem ent_213 : Enters Tryz.prog 213 := enters_of Tryz.func213 (by kernel_rfl) (by kernel_rfl)
theorem ent_216 : Enters Tryz.prog 216 := enters_of Tryz.func216 (by kernel_rfl) (by kernel_rfl)
theorem ent_232 : Enters Tryz.prog 232 := enters_of Tryz.func232 (by kernel_rfl) (by kernel_rfl)
theorem ent_239 : Enters Tryz.prog 239 := enters_of Tryz.func239 (by kernel_rfl) (by kernel_rfl)
theorem ent_244 : Enters Tryz.prog 244 := enters_of Tryz.func244 (by kernel_rfl) (by kernel_rfl)
theorem ent_245 : Enters Tryz.prog 245 := enters_of Tryz.func245 (by kernel_rfl) (by kernel_rfl)
theorem ent_246 : Enters Tryz.prog 246 := enters_of Tryz.func246 (by kernel_rfl) (by kernel_rfl)
theorem ent_247 : Enters Tryz.prog 247 := enters_of Tryz.func247 (by kernel_rfl) (by kernel_rfl)
theorem ent_248 : Enters Tryz.prog 248 := enters_of Tryz.func248 (by kernel_rfl) (by kernel_rfl)
theorem ent_250 : Enters Tryz.prog 250 := enters_of Tryz.func250 (by kernel_rfl) (by kernel_rfl)
theorem ent_251 : Enters Tryz.prog 251 := enters_of Tryz.func251 (by kernel_rfl) (by kernel_rfl)
theorem ent_252 : Enters Tryz.prog 252 := enters_of Tryz.func252 (by kernel_rfl) (by kernel_rfl)
theorem ent_253 : Enters Tryz.prog 253 := enters_of Tryz.func253 (by kernel_rfl) (by kernel_rfl)
theorem ent_254 : Enters Tryz.prog 254 := enters_of Tryz.func254 (by kernel_rfl) (by kernel_rfl)
theorem ent_255 : Enters Tryz.prog 255 := enters_of Tryz.func255 (by kernel_rfl) (by kernel_rfl)
theorem ent_256 : Enters Tryz.prog 256 := enters_of Tryz.func256 (by kernel_rfl) (by kernel_rfl)
theorem ent_257 : Enters Tryz.prog 257 := enters_of Tryz.func257 (by kernel_rfl) (by kernel_rfl)
theorem ent_258 : Enters Tryz.prog 258 := enters_of Tryz.func258 (by kernel_rfl) (by kernel_rfl)
theorem ent_259 : Enters Tryz.prog 259 := enters_of Tryz.func259 (by kernel_rfl) (by kernel_rfl)
theorem ent_260 : Enters Tryz.prog 260 := enters_of Tryz.func260 (by kernel_rfl) (by kernel_rfl)
theorem ent_261 : Enters Tryz.prog 261 := enters_of Tryz.func261 (by kernel_rfl) (by kernel_rfl)
theorem ent_262 : Enters Tryz.prog 262 := enters_of Tryz.func262 (by kernel_rfl) (by kernel_rfl)
theorem ent_277 : Enters Tryz.prog 277 := enters_of Tryz.func277 (by kernel_rfl) (by kernel_rfl)
theorem ent_278 : Enters Tryz.prog 278 := enters_of Tryz.func278 (by kernel_rfl) (by kernel_rfl)
theorem ent_279 : Enters Tryz.prog 279 := enters_of Tryz.func279 (by kernel_rfl) (by kernel_rfl)
theorem ent_280 : Enters Tryz.prog 280 := enters_of Tryz.func280 (by kernel_rfl) (by kernel_rfl)
theorem ent_282 : Enters Tryz.prog 282 := enters_of Tryz.func282 (by kernel_rfl) (by kernel_rfl)
theorem ent_283 : Enters Tryz.prog 283 := enters_of Tryz.func283 (by kernel_rfl) (by kernel_rfl)
theorem ent_284 : Enters Tryz.prog 284 := enters_of Tryz.func284 (by kernel_rfl) (by kernel_rfl)
theorem ent_285 : Enters Tryz.prog 285 := enters_of Tryz.func285 (by kernel_rfl) (by kernel_rfl)
theorem ent_286 : Enters Tryz.prog 286 := enters_of Tryz.func286 (by kernel_rfl) (by kernel_rfl)
theorem ent_287 : Enters Tryz.prog 287 := enters_of Tryz.func287 (by kernel_rfl) (by kernel_rfl)
theorem ent_288 : Enters Tryz.prog 288 := enters_of Tryz.func288 (by kernel_rfl) (by kernel_rfl)
theorem ent_289 : Enters Tryz.prog 289 := enters_of Tryz.func289 (by kernel_rfl) (by kernel_rfl)
theorem ent_290 : Enters Tryz.prog 290 := enters_of Tryz.func290 (by kernel_rfl) (by kernel_rfl)
theorem ent_298 : Enters Tryz.prog 298 := enters_of Tryz.func298 (by kernel_rfl) (by kernel_rfl)
theorem mixP : Tryz.prog.follows .mixedOrders = true := by kernel_rfl

end Go.Proofs.YtkaogeogjjcdhaaGreatDoor
