/- The types as a table, and which functions can be entered (written by gen_ty.py out of the translation). -/
import Derived.Test.YtllnlmchjljhlaaGreatDoorProg
import Derived.Test.YtllnlmchjljhlaaGreatDoorPkDecodeMoreXAbB
namespace Go.Proofs.YtllnlmchjljhlaaGreatDoor
open Go.RowKit
set_option linter.unusedVariables false

theorem tyA_2 : tyA Tryz.prog 2 = some ⟨false, 1, 8, [.int .i64 0], 0, [], 13, []⟩ := by kernel_rfl
theorem tyA_3 : tyA Tryz.prog 3 = some ⟨false, 1, 8, [.int .i64 0], 0, [], 13, []⟩ := by kernel_rfl
theorem tyA_4 : tyA Tryz.prog 4 = some ⟨false, 1, 1, [.bool false], 0, [], 4, []⟩ := by kernel_rfl
theorem tyA_5 : tyA Tryz.prog 5 = some ⟨false, 1, 1, [.int .u8 0], 0, [], 14, []⟩ := by kernel_rfl
theorem tyA_6 : tyA Tryz.prog 6 = some ⟨false, 1, 1, [.int .u8 0], 0, [], 14, []⟩ := by kernel_rfl
theorem tyA_7 : tyA Tryz.prog 7 = some ⟨true, 4, 24, [.int .i64 0, .int .i64 0, .bool false, .int .u8 0], 0, [(0, 2), (1, 3), (2, 4), (3, 6)], 3, [(0, 1), (1, 1), (2, 1), (3, 1)]⟩ := by kernel_rfl
theorem tyA_8 : tyA Tryz.prog 8 = some ⟨true, 4, 24, [.int .i64 0, .int .i64 0, .bool false, .int .u8 0], 0, [(0, 2), (1, 3), (2, 4), (3, 6)], 3, [(0, 1), (1, 1), (2, 1), (3, 1)]⟩ := by kernel_rfl
theorem tyA_9 : tyA Tryz.prog 9 = some ⟨false, 1, 16, [.string ⟨#[]⟩], 0, [], 2, []⟩ := by kernel_rfl
theorem tyA_10 : tyA Tryz.prog 10 = some ⟨false, 1, 16, [.string ⟨#[]⟩], 0, [], 2, []⟩ := by kernel_rfl
theorem tyA_11 : tyA Tryz.prog 11 = some ⟨false, 1, 16, [.string ⟨#[]⟩], 0, [], 2, []⟩ := by kernel_rfl
theorem tyA_12 : tyA Tryz.prog 12 = some ⟨false, 1, 8, [.int .u64 0], 0, [], 17, []⟩ := by kernel_rfl
theorem tyA_13 : tyA Tryz.prog 13 = some ⟨true, 2, 24, [.string ⟨#[]⟩, .int .u64 0], 0, [(0, 9), (1, 12)], 3, [(0, 1), (1, 1)]⟩ := by kernel_rfl
theorem tyA_14 : tyA Tryz.prog 14 = some ⟨true, 2, 24, [.string ⟨#[]⟩, .int .u64 0], 0, [(0, 9), (1, 12)], 3, [(0, 1), (1, 1)]⟩ := by kernel_rfl
theorem tyA_15 : tyA Tryz.prog 15 = some ⟨false, 1, 8, [.pointer none], 325, [], 7, []⟩ := by kernel_rfl
theorem tyA_16 : tyA Tryz.prog 16 = some ⟨false, 1, 8, [.pointer none], 328, [], 7, []⟩ := by kernel_rfl
theorem tyA_17 : tyA Tryz.prog 17 = some ⟨false, 1, 8, [.pointer none], 335, [], 7, []⟩ := by kernel_rfl
theorem tyA_18 : tyA Tryz.prog 18 = some ⟨true, 1, 8, [.pointer none], 0, [(0, 17)], 3, [(0, 1)]⟩ := by kernel_rfl
theorem tyA_19 : tyA Tryz.prog 19 = some ⟨true, 1, 8, [.pointer none], 0, [(0, 17)], 3, [(0, 1)]⟩ := by kernel_rfl
theorem tyA_21 : tyA Tryz.prog 21 = some ⟨false, 1, 4, [.int .i32 0], 0, [], 12, []⟩ := by kernel_rfl
theorem tyA_22 : tyA Tryz.prog 22 = some ⟨false, 1, 24, [.slice none 0 0], 33, [], 1, []⟩ := by kernel_rfl
theorem tyA_23 : tyA Tryz.prog 23 = some ⟨true, 2, 32, [.slice none 0 0, .int .i64 0], 0, [(0, 22), (1, 3)], 3, [(0, 1), (1, 1)]⟩ := by kernel_rfl
theorem tyA_24 : tyA Tryz.prog 24 = some ⟨true, 2, 32, [.slice none 0 0, .int .i64 0], 0, [(0, 22), (1, 3)], 3, [(0, 1), (1, 1)]⟩ := by kernel_rfl
theorem tyA_29 : tyA Tryz.prog 29 = some ⟨false, 1, 24, [.slice none 0 0], 9, [], 1, []⟩ := by kernel_rfl
theorem tyA_30 : tyA Tryz.prog 30 = some ⟨false, 1, 24, [.slice none 0 0], 38, [], 1, []⟩ := by kernel_rfl
theorem tyA_31 : tyA Tryz.prog 31 = some ⟨false, 1, 24, [.slice none 0 0], 3, [], 1, []⟩ := by kernel_rfl
theorem tyA_32 : tyA Tryz.prog 32 = some ⟨true, 10, 160, [.int .i64 0, .string ⟨#[]⟩, .slice none 0 0, .slice none 0 0, .slice none 0 0, .bool false, .string ⟨#[]⟩, .int .i64 0, .int .i64 0, .slice none 0 0], 0, [(0, 3), (1, 9), (2, 29), (3, 30), (4, 29), (5, 4), (6, 9), (7, 3), (8, 3), (9, 31)], 3, [(0, 1), (1, 1), (2, 1), (3, 1), (4, 1), (5, 1), (6, 1), (7, 1), (8, 1), (9, 1)]⟩ := by kernel_rfl
theorem tyA_33 : tyA Tryz.prog 33 = some ⟨true, 10, 160, [.int .i64 0, .string ⟨#[]⟩, .slice none 0 0, .slice none 0 0, .slice none 0 0, .bool false, .string ⟨#[]⟩, .int .i64 0, .int .i64 0, .slice none 0 0], 0, [(0, 3), (1, 9), (2, 29), (3, 30), (4, 29), (5, 4), (6, 9), (7, 3), (8, 3), (9, 31)], 3, [(0, 1), (1, 1), (2, 1), (3, 1), (4, 1), (5, 1), (6, 1), (7, 1), (8, 1), (9, 1)]⟩ := by kernel_rfl
theorem tyA_34 : tyA Tryz.prog 34 = some ⟨false, 1, 24, [.slice none 0 0], 36, [], 1, []⟩ := by kernel_rfl
theorem tyA_35 : tyA Tryz.prog 35 = some ⟨true, 5, 80, [.int .i64 0, .int .i64 0, .string ⟨#[]⟩, .slice none 0 0, .slice none 0 0], 0, [(0, 3), (1, 2), (2, 9), (3, 34), (4, 29)], 3, [(0, 1), (1, 1), (2, 1), (3, 1), (4, 1)]⟩ := by kernel_rfl
theorem tyA_36 : tyA Tryz.prog 36 = some ⟨true, 5, 80, [.int .i64 0, .int .i64 0, .string ⟨#[]⟩, .slice none 0 0, .slice none 0 0], 0, [(0, 3), (1, 2), (2, 9), (3, 34), (4, 29)], 3, [(0, 1), (1, 1), (2, 1), (3, 1), (4, 1)]⟩ := by kernel_rfl
theorem tyA_37 : tyA Tryz.prog 37 = some ⟨true, 9, 136, [.string ⟨#[]⟩, .slice none 0 0, .int .i64 0, .bool false, .int .i64 0, .int .i64 0, .string ⟨#[]⟩, .slice none 0 0, .slice none 0 0], 0, [(0, 9), (1, 29), (2, 3), (3, 4), (4, 36)], 3, [(0, 1), (1, 1), (2, 1), (3, 1), (4, 5)]⟩ := by kernel_rfl
theorem tyA_38 : tyA Tryz.prog 38 = some ⟨true, 9, 136, [.string ⟨#[]⟩, .slice none 0 0, .int .i64 0, .bool false, .int .i64 0, .int .i64 0, .string ⟨#[]⟩, .slice none 0 0, .slice none 0 0], 0, [(0, 9), (1, 29), (2, 3), (3, 4), (4, 36)], 3, [(0, 1), (1, 1), (2, 1), (3, 1), (4, 5)]⟩ := by kernel_rfl
theorem tyA_39 : tyA Tryz.prog 39 = some ⟨false, 1, 8, [.int .u64 0], 0, [], 17, []⟩ := by kernel_rfl
theorem tyA_40 : tyA Tryz.prog 40 = some ⟨false, 1, 24, [.slice none 0 0], 5, [], 1, []⟩ := by kernel_rfl
theorem tyA_41 : tyA Tryz.prog 41 = some ⟨false, 1, 24, [.slice none 0 0], 43, [], 1, []⟩ := by kernel_rfl
theorem tyA_42 : tyA Tryz.prog 42 = some ⟨true, 6, 96, [.int .i64 0, .int .i64 0, .int .u64 0, .slice none 0 0, .slice none 0 0, .slice none 0 0], 0, [(0, 3), (1, 2), (2, 39), (3, 40), (4, 41), (5, 29)], 3, [(0, 1), (1, 1), (2, 1), (3, 1), (4, 1), (5, 1)]⟩ := by kernel_rfl
theorem tyA_43 : tyA Tryz.prog 43 = some ⟨true, 6, 96, [.int .i64 0, .int .i64 0, .int .u64 0, .slice none 0 0, .slice none 0 0, .slice none 0 0], 0, [(0, 3), (1, 2), (2, 39), (3, 40), (4, 41), (5, 29)], 3, [(0, 1), (1, 1), (2, 1), (3, 1), (4, 1), (5, 1)]⟩ := by kernel_rfl
theorem tyA_49 : tyA Tryz.prog 49 = some ⟨false, 1, 8, [.int .i64 0], 0, [], 13, []⟩ := by kernel_rfl
theorem tyA_85 : tyA Tryz.prog 85 = some ⟨false, 1, 8, [.pointer none], 33, [], 7, []⟩ := by kernel_rfl
theorem tyA_89 : tyA Tryz.prog 89 = some ⟨false, 1, 8, [.pointer none], 38, [], 7, []⟩ := by kernel_rfl
theorem tyA_99 : tyA Tryz.prog 99 = some ⟨false, 1, 8, [.pointer none], 101, [], 7, []⟩ := by kernel_rfl
theorem tyA_100 : tyA Tryz.prog 100 = some ⟨true, 3, 40, [.slice none 0 0, .int .i64 0, .int .i64 0], 0, [(0, 24), (2, 3)], 3, [(0, 2), (2, 1)]⟩ := by kernel_rfl
theorem tyA_101 : tyA Tryz.prog 101 = some ⟨true, 3, 40, [.slice none 0 0, .int .i64 0, .int .i64 0], 0, [(0, 24), (2, 3)], 3, [(0, 2), (2, 1)]⟩ := by kernel_rfl
theorem tyA_105 : tyA Tryz.prog 105 = some ⟨false, 1, 8, [.pointer none], 109, [], 7, []⟩ := by kernel_rfl
theorem tyA_106 : tyA Tryz.prog 106 = some ⟨true, 3, 40, [.slice none 0 0, .int .i64 0, .int .i64 0], 0, [(0, 40), (1, 3), (2, 49)], 3, [(0, 1), (1, 1), (2, 1)]⟩ := by kernel_rfl
theorem tyA_107 : tyA Tryz.prog 107 = some ⟨true, 3, 40, [.slice none 0 0, .int .i64 0, .int .i64 0], 0, [(0, 40), (1, 3), (2, 49)], 3, [(0, 1), (1, 1), (2, 1)]⟩ := by kernel_rfl
theorem tyA_108 : tyA Tryz.prog 108 = some ⟨true, 5, 72, [.slice none 0 0, .int .i64 0, .slice none 0 0, .int .i64 0, .int .i64 0], 0, [(0, 24), (2, 107)], 3, [(0, 2), (2, 3)]⟩ := by kernel_rfl
theorem tyA_109 : tyA Tryz.prog 109 = some ⟨true, 5, 72, [.slice none 0 0, .int .i64 0, .slice none 0 0, .int .i64 0, .int .i64 0], 0, [(0, 24), (2, 107)], 3, [(0, 2), (2, 3)]⟩ := by kernel_rfl
theorem tyA_111 : tyA Tryz.prog 111 = some ⟨false, 1, 8, [.pointer none], 114, [], 7, []⟩ := by kernel_rfl
theorem tyA_112 : tyA Tryz.prog 112 = some ⟨false, 1, 24, [.slice none 0 0], 4, [], 1, []⟩ := by kernel_rfl
theorem tyA_113 : tyA Tryz.prog 113 = some ⟨true, 4, 64, [.slice none 0 0, .int .i64 0, .slice none 0 0, .bool false], 0, [(0, 24), (2, 112), (3, 4)], 3, [(0, 2), (2, 1), (3, 1)]⟩ := by kernel_rfl
theorem tyA_114 : tyA Tryz.prog 114 = some ⟨true, 4, 64, [.slice none 0 0, .int .i64 0, .slice none 0 0, .bool false], 0, [(0, 24), (2, 112), (3, 4)], 3, [(0, 2), (2, 1), (3, 1)]⟩ := by kernel_rfl
theorem tyA_123 : tyA Tryz.prog 123 = some ⟨false, 1, 8, [.pointer none], 127, [], 7, []⟩ := by kernel_rfl
theorem tyA_126 : tyA Tryz.prog 126 = some ⟨true, 5, 72, [.slice none 0 0, .int .i64 0, .slice none 0 0, .int .i64 0, .int .i64 0], 0, [(0, 24), (2, 107)], 3, [(0, 2), (2, 3)]⟩ := by kernel_rfl
theorem tyA_127 : tyA Tryz.prog 127 = some ⟨true, 5, 72, [.slice none 0 0, .int .i64 0, .slice none 0 0, .int .i64 0, .int .i64 0], 0, [(0, 24), (2, 107)], 3, [(0, 2), (2, 3)]⟩ := by kernel_rfl
theorem tyA_128 : tyA Tryz.prog 128 = some ⟨false, 1, 8, [.pointer none], 130, [], 7, []⟩ := by kernel_rfl
theorem tyA_129 : tyA Tryz.prog 129 = some ⟨true, 4, 64, [.slice none 0 0, .int .i64 0, .slice none 0 0, .int .i64 0], 0, [(0, 24), (2, 31), (3, 3)], 3, [(0, 2), (2, 1), (3, 1)]⟩ := by kernel_rfl
theorem tyA_130 : tyA Tryz.prog 130 = some ⟨true, 4, 64, [.slice none 0 0, .int .i64 0, .slice none 0 0, .int .i64 0], 0, [(0, 24), (2, 31), (3, 3)], 3, [(0, 2), (2, 1), (3, 1)]⟩ := by kernel_rfl
theorem tyA_153 : tyA Tryz.prog 153 = some ⟨false, 1, 4, [.int .u32 0], 0, [], 16, []⟩ := by kernel_rfl
theorem tyA_163 : tyA Tryz.prog 163 = some ⟨false, 1, 8, [.pointer none], 165, [], 7, []⟩ := by kernel_rfl
theorem tyA_164 : tyA Tryz.prog 164 = some ⟨true, 3, 40, [.slice none 0 0, .int .i64 0, .int .i64 0], 0, [(0, 40), (1, 3), (2, 3)], 3, [(0, 1), (1, 1), (2, 1)]⟩ := by kernel_rfl
theorem tyA_165 : tyA Tryz.prog 165 = some ⟨true, 3, 40, [.slice none 0 0, .int .i64 0, .int .i64 0], 0, [(0, 40), (1, 3), (2, 3)], 3, [(0, 1), (1, 1), (2, 1)]⟩ := by kernel_rfl
theorem tyA_179 : tyA Tryz.prog 179 = some ⟨false, 1, 8, [.pointer none], 43, [], 7, []⟩ := by kernel_rfl
theorem tyA_185 : tyA Tryz.prog 185 = some ⟨false, 1, 8, [.pointer none], 36, [], 7, []⟩ := by kernel_rfl
theorem tyA_191 : tyA Tryz.prog 191 = some ⟨false, 1, 8, [.pointer none], 196, [], 7, []⟩ := by kernel_rfl
theorem tyA_192 : tyA Tryz.prog 192 = some ⟨false, 1, 8, [.pointer none], 194, [], 7, []⟩ := by kernel_rfl
theorem tyA_193 : tyA Tryz.prog 193 = some ⟨true, 2, 32, [.pointer none, .slice none 0 0], 0, [(0, 192), (1, 40)], 3, [(0, 1), (1, 1)]⟩ := by kernel_rfl
theorem tyA_194 : tyA Tryz.prog 194 = some ⟨true, 2, 32, [.pointer none, .slice none 0 0], 0, [(0, 192), (1, 40)], 3, [(0, 1), (1, 1)]⟩ := by kernel_rfl
theorem tyA_195 : tyA Tryz.prog 195 = some ⟨true, 3, 40, [.pointer none, .slice none 0 0, .bool false], 0, [(0, 194), (2, 4)], 3, [(0, 2), (2, 1)]⟩ := by kernel_rfl
theorem tyA_196 : tyA Tryz.prog 196 = some ⟨true, 3, 40, [.pointer none, .slice none 0 0, .bool false], 0, [(0, 194), (2, 4)], 3, [(0, 2), (2, 1)]⟩ := by kernel_rfl
theorem tyA_209 : tyA Tryz.prog 209 = some ⟨false, 1, 8, [.int .u64 0], 0, [], 17, []⟩ := by kernel_rfl
theorem tyA_213 : tyA Tryz.prog 213 = some ⟨false, 1, 8, [.pointer none], 215, [], 7, []⟩ := by kernel_rfl
theorem tyA_214 : tyA Tryz.prog 214 = some ⟨true, 3, 40, [.slice none 0 0, .int .i64 0, .int .i64 0], 0, [(0, 24), (2, 3)], 3, [(0, 2), (2, 1)]⟩ := by kernel_rfl
theorem tyA_215 : tyA Tryz.prog 215 = some ⟨true, 3, 40, [.slice none 0 0, .int .i64 0, .int .i64 0], 0, [(0, 24), (2, 3)], 3, [(0, 2), (2, 1)]⟩ := by kernel_rfl
theorem tyA_241 : tyA Tryz.prog 241 = some ⟨true, 15, 240, [.string ⟨#[]⟩, .string ⟨#[]⟩, .string ⟨#[]⟩, .string ⟨#[]⟩, .string ⟨#[]⟩, .string ⟨#[]⟩, .string ⟨#[]⟩, .string ⟨#[]⟩, .string ⟨#[]⟩, .string ⟨#[]⟩, .string ⟨#[]⟩, .string ⟨#[]⟩, .string ⟨#[]⟩, .string ⟨#[]⟩, .string ⟨#[]⟩], 9, [(15, 9)], 6, []⟩ := by kernel_rfl
theorem tyA_248 : tyA Tryz.prog 248 = some ⟨false, 1, 8, [.pointer none], 5, [], 7, []⟩ := by kernel_rfl
theorem tyA_274 : tyA Tryz.prog 274 = some ⟨false, 1, 8, [.pointer none], 276, [], 7, []⟩ := by kernel_rfl
theorem tyA_275 : tyA Tryz.prog 275 = some ⟨true, 5, 40, [.int .u64 0, .int .u64 0, .int .i64 0, .int .u8 0, .int .i64 0], 0, [(0, 39), (1, 209), (2, 3), (3, 5), (4, 3)], 3, [(0, 1), (1, 1), (2, 1), (3, 1), (4, 1)]⟩ := by kernel_rfl
theorem tyA_276 : tyA Tryz.prog 276 = some ⟨true, 5, 40, [.int .u64 0, .int .u64 0, .int .i64 0, .int .u8 0, .int .i64 0], 0, [(0, 39), (1, 209), (2, 3), (3, 5), (4, 3)], 3, [(0, 1), (1, 1), (2, 1), (3, 1), (4, 1)]⟩ := by kernel_rfl
theorem tyA_292 : tyA Tryz.prog 292 = some ⟨false, 1, 24, [.slice none 0 0], 2, [], 1, []⟩ := by kernel_rfl
theorem tyA_294 : tyA Tryz.prog 294 = some ⟨false, 1, 24, [.slice none 0 0], 40, [], 1, []⟩ := by kernel_rfl
theorem tyA_302 : tyA Tryz.prog 302 = some ⟨false, 1, 8, [.pointer none], 0, [], 8, []⟩ := by kernel_rfl
theorem tyA_307 : tyA Tryz.prog 307 = some ⟨false, 1, 8, [.int .i64 0], 0, [], 13, []⟩ := by kernel_rfl
theorem tyA_315 : tyA Tryz.prog 315 = some ⟨false, 1, 8, [.int .u64 0], 0, [], 17, []⟩ := by kernel_rfl
theorem tyA_319 : tyA Tryz.prog 319 = some ⟨false, 1, 8, [.pointer none], 3, [], 7, []⟩ := by kernel_rfl
theorem tyA_321 : tyA Tryz.prog 321 = some ⟨false, 1, 8, [.pointer none], 315, [], 7, []⟩ := by kernel_rfl
theorem tyA_324 : tyA Tryz.prog 324 = some ⟨true, 4, 40, [.pointer none, .pointer none, .pointer none, .string ⟨#[]⟩], 0, [(0, 17), (1, 17), (2, 17), (3, 9)], 3, [(0, 1), (1, 1), (2, 1), (3, 1)]⟩ := by kernel_rfl
theorem tyA_325 : tyA Tryz.prog 325 = some ⟨true, 4, 40, [.pointer none, .pointer none, .pointer none, .string ⟨#[]⟩], 0, [(0, 17), (1, 17), (2, 17), (3, 9)], 3, [(0, 1), (1, 1), (2, 1), (3, 1)]⟩ := by kernel_rfl
theorem tyA_326 : tyA Tryz.prog 326 = some ⟨true, 0, 0, [], 16, [(0, 16)], 6, []⟩ := by kernel_rfl
theorem tyA_327 : tyA Tryz.prog 327 = some ⟨true, 0, 0, [], 0, [(0, 326)], 3, [(0, 0)]⟩ := by kernel_rfl
theorem tyA_328 : tyA Tryz.prog 328 = some ⟨true, 0, 0, [], 0, [(0, 326)], 3, [(0, 0)]⟩ := by kernel_rfl
theorem tyA_329 : tyA Tryz.prog 329 = some ⟨false, 1, 1, [.int .u8 0], 0, [], 14, []⟩ := by kernel_rfl
theorem tyA_330 : tyA Tryz.prog 330 = some ⟨false, 1, 1, [.int .u8 0], 0, [], 14, []⟩ := by kernel_rfl
theorem tyA_332 : tyA Tryz.prog 332 = some ⟨false, 1, 4, [.int .i32 0], 0, [], 12, []⟩ := by kernel_rfl
theorem tyA_333 : tyA Tryz.prog 333 = some ⟨false, 1, 4, [.int .i32 0], 0, [], 12, []⟩ := by kernel_rfl
theorem ent_7 : Enters Tryz.prog 7 := enters_of Tryz.func7 (by kernel_rfl) (by kernel_rfl)
theorem ent_12 : Enters Tryz.prog 12 := enters_of Tryz.func12 (by kernel_rfl) (by kernel_rfl)
theorem ent_19 : Enters Tryz.prog 19 := enters_of Tryz.func19 (by kernel_rfl) (by kernel_rfl)
theorem ent_31 : Enters Tryz.prog 31 := enters_of Tryz.func31 (by kernel_rfl) (by kernel_rfl)
theorem ent_32 : Enters Tryz.prog 32 := enters_of Tryz.func32 (by kernel_rfl) (by kernel_rfl)
theorem ent_33 : Enters Tryz.prog 33 := enters_of Tryz.func33 (by kernel_rfl) (by kernel_rfl)
theorem ent_39 : Enters Tryz.prog 39 := enters_of Tryz.func39 (by kernel_rfl) (by kernel_rfl)
theorem ent_43 : Enters Tryz.prog 43 := enters_of Tryz.func43 (by kernel_rfl) (by kernel_rfl)
theorem ent_46 : Enters Tryz.prog 46 := enters_of Tryz.func46 (by kernel_rfl) (by kernel_rfl)
theorem ent_47 : Enters Tryz.prog 47 := enters_of Tryz.func47 (by kernel_rfl) (by kernel_rfl)
theorem ent_49 : Enters Tryz.prog 49 := enters_of Tryz.func49 (by kernel_rfl) (by kernel_rfl)
theorem ent_56 : Enters Tryz.prog 56 := enters_of Tryz.func56 (by kernel_rfl) (by kernel_rfl)
theorem ent_60 : Enters Tryz.prog 60 := enters_of Tryz.func60 (by kernel_rfl) (by kernel_rfl)
theorem ent_61 : Enters Tryz.prog 61 := enters_of Tryz.func61 (by kernel_rfl) (by kernel_rfl)
theorem ent_62 : Enters Tryz.prog 62 := enters_of Tryz.func62 (by kernel_rfl) (by kernel_rfl)
theorem ent_63 : Enters Tryz.prog 63 := enters_of Tryz.func63 (by kernel_rfl) (by kernel_rfl)
theorem ent_64 : Enters Tryz.prog 64 := enters_of Tryz.func64 (by kernel_rfl) (by kernel_rfl)
theorem ent_65 : Enters Tryz.prog 65 := enters_of Tryz.func65 (by kernel_rfl) (by kernel_rfl)
theorem ent_67 : Enters Tryz.prog 67 := enters_of Tryz.func67 (by kernel_rfl) (by kernel_rfl)
theorem ent_68 : Enters Tryz.prog 68 := enters_of Tryz.func68 (by kernel_rfl) (by kernel_rfl)
theorem ent_70 : Enters Tryz.prog 70 := enters_of Tryz.func70 (by kernel_rfl) (by kernel_rfl)
theorem ent_71 : Enters Tryz.prog 71 := enters_of Tryz.func71 (by kernel_rfl) (by kernel_rfl)
theorem ent_76 : Enters Tryz.prog 76 := enters_of Tryz.func76 (by kernel_rfl) (by kernel_rfl)
theorem ent_83 : Enters Tryz.prog 83 := enters_of Tryz.func83 (by kernel_rfl) (by kernel_rfl)
theorem ent_84 : Enters Tryz.prog 84 := enters_of Tryz.func84 (by kernel_rfl) (by kernel_rfl)
theorem ent_85 : Enters Tryz.prog 85 := enters_of Tryz.func85 (by kernel_rfl) (by kernel_rfl)
theorem ent_86 : Enters Tryz.prog 86 := enters_of Tryz.func86 (by kernel_rfl) (by kernel_rfl)
theorem ent_87 : Enters Tryz.prog 87 := enters_of Tryz.func87 (by kernel_rfl) (by kernel_rfl)
theorem ent_88 : Enters Tryz.prog 88 := enters_of Tryz.func88 (by kernel_rfl) (by kernel_rfl)
theorem ent_89 : Enters Tryz.prog 89 := enters_of Tryz.func89 (by kernel_rfl) (by kernel_rfl)
theorem ent_93 : Enters Tryz.prog 93 := enters_of Tryz.func93 (by kernel_rfl) (by kernel_rfl)
theorem ent_99 : Enters Tryz.prog 99 := enters_of Tryz.func99 (by kernel_rfl) (by kernel_rfl)
theorem ent_102 : Enters Tryz.prog 102 := enters_of Tryz.func102 (by kernel_rfl) (by kernel_rfl)
theorem ent_106 : Enters Tryz.prog 106 := enters_of Tryz.func106 (by kernel_rfl) (by kernel_rfl)
theorem ent_107 : Enters Tryz.prog 107 := enters_of Tryz.func107 (by kernel_rfl) (by kernel_rfl)
theorem ent_108 : Enters Tryz.prog 108 := enters_of Tryz.func108 (by kernel_rfl) (by kernel_rfl)
theorem ent_109 : Enters Tryz.prog 109 := enters_of Tryz.func109 (by kernel_rfl) (by kernel_rfl)
theorem ent_110 : Enters Tryz.prog 110 := enters_of Tryz.func110 (by kernel_rfl) (by kernel_rfl)
theorem ent_111 : Enters Tryz.prog 111 := enters_of Tryz.func111 (by kernel_rfl) (by kernel_rfl)
theorem ent_117 : Enters Tryz.prog 117 := enters_of Tryz.func117 (by kernel_rfl) (by kernel_rfl)
theorem ent_118 : Enters Tryz.prog 118 := enters_of Tryz.func118 (by kernel_rfl) (by kernel_rfl)
theorem ent_119 : Enters Tryz.prog 119 := enters_of Tryz.func119 (by kernel_rfl) (by kernel_rfl)
theorem ent_120 : Enters Tryz.prog 120 := enters_of Tryz.func120 (by kernel_rfl) (by kernel_rfl)
theorem ent_121 : Enters Tryz.prog 121 := enters_of Tryz.func121 (by kernel_rfl) (by kernel_rfl)
theorem ent_122 : Enters Tryz.prog 122 := enters_of Tryz.func122 (by kernel_rfl) (by kernel_rfl)
theorem ent_123 : Enters Tryz.prog 123 := enters_of Tryz.func123 (by kernel_rfl) (by kernel_rfl)
theorem ent_124 : Enters Tryz.prog 124 := enters_of Tryz.func124 (by kernel_rfl) (by kernel_rfl)
theorem ent_125 : Enters Tryz.prog 125 := enters_of Tryz.func125 (by kernel_rfl) (by kernel_rfl)
theorem ent_126 : Enters Tryz.prog 126 := enters_of Tryz.func126 (by kernel_rfl) (by kernel_rfl)
theorem ent_127 : Enters Tryz.prog 127 := enters_of Tryz.func127 (by kernel_rfl) (by kernel_rfl)
theorem ent_128 : Enters Tryz.prog 128 := enters_of Tryz.func128 (by kernel_rfl) (by kernel_rfl)
theorem ent_129 : Enters Tryz.prog 129 := enters_of Tryz.func129 (by kernel_rfl) (by kernel_rfl)
theorem ent_138 : Enters Tryz.prog 138 := enters_of Tryz.func138 (by kernel_rfl) (by kernel_rfl)
theorem ent_139 : Enters Tryz.prog 139 := enters_of Tryz.func139 (by kernel_rfl) (by kernel_rfl)
theorem ent_157 : Enters Tryz.prog 157 := enters_of Tryz.func157 (by kernel_rfl) (by kernel_rfl)
theorem ent_162 : Enters Tryz.prog 162 := enters_of Tryz.func162 (by kernel_rfl) (by kernel_rfl)
theorem ent_163 : Enters Tryz.prog 163 := enters_of Tryz.func163 (by kernel_rfl) (by kernel_rfl)
theorem ent_164 : Enters Tryz.prog 164 := enters_of Tryz.func164 (by kernel_rfl) (by kernel_rfl)
theorem ent_165 : Enters Tryz.prog 165 := enters_of Tryz.func165 (by kernel_rfl) (by kernel_rfl)
theorem ent_166 : Enters Tryz.prog 166 := enters_of Tryz.func166 (by kernel_rfl) (by kernel_rfl)
theorem ent_167 : Enters Tryz.prog 167 := enters_of Tryz.func167 (by kernel_rfl) (by kernel_rfl)
theorem ent_168 : Enters Tryz.prog 168 := enters_of Tryz.func168 (by kernel_rfl) (by kernel_rfl)
theorem ent_169 : Enters Tryz.prog 169 := enters_of Tryz.func169 (by kernel_rfl) (by kernel_rfl)
theorem ent_170 : Enters Tryz.prog 170 := enters_of Tryz.func170 (by kernel_rfl) (by kernel_rfl)
theorem ent_171 : Enters Tryz.prog 171 := enters_of Tryz.func171 (by kernel_rfl) (by kernel_rfl)
theorem ent_172 : Enters Tryz.prog 172 := enters_of Tryz.func172 (by kernel_rfl) (by kernel_rfl)
theorem ent_173 : Enters Tryz.prog 173 := enters_of Tryz.func173 (by kernel_rfl) (by kernel_rfl)
theorem ent_174 : Enters Tryz.prog 174 := enters_of Tryz.func174 (by kernel_rfl) (by kernel_rfl)
theorem ent_175 : Enters Tryz.prog 175 := enters_of Tryz.func175 (by kernel_rfl) (by kernel_rfl)
theorem ent_176 : Enters Tryz.prog 176 := enters_of Tryz.func176 (by kernel_rfl) (by kernel_rfl)
theorem ent_180 : Enters Tryz.prog 180 := enters_of Tryz.func180 (by kernel_rfl) (by kernel_rfl)
theorem ent_183 : Enters Tryz.prog 183 := enters_of Tryz.func183 (by kernel_rfl) (by kernel_rfl)
theorem ent_184 : Enters Tryz.prog 184 := enters_of Tryz.func184 (by kernel_rfl) (by kernel_rfl)
theorem ent_185 : Enters Tryz.prog 185 := enters_of Tryz.func185 (by kernel_rfl) (by kernel_rfl)
theorem ent_186 : Enters Tryz.prog 186 := enters_of Tryz.func186 (by kernel_rfl) (by kernel_rfl)
theorem ent_187 : Enters Tryz.prog 187 := enters_of Tryz.func187 (by kernel_rfl) (by kernel_rfl)
theorem ent_188 : Enters Tryz.prog 188 := enters_of Tryz.func188 (by kernel_rfl) (by kernel_rfl)
theorem ent_191 : Enters Tryz.prog 191 := enters_of Tryz.func191 (by kernel_rfl) (by kernel_rfl)
theorem ent_192 : Enters Tryz.prog 192 := enters_of Tryz.func192 (by kernel_rfl) (by kernel_rfl)
theorem ent_193 : Enters Tryz.prog 193 := enters_of Tryz.func193 (by kernel_rfl) (by kernel_rfl)
theorem ent_194 : Enters Tryz.prog 194 := enters_of Tryz.func194 (by kernel_rfl) (by kernel_rfl)
theorem ent_195 : Enters Tryz.prog 195 := enters_of Tryz.func195 (by kernel_rfl) (by kernel_rfl)
theorem ent_196 : Enters Tryz.prog 196 := enters_of Tryz.func196 (by kernel_rfl) (by kernel_rfl)
theorem ent_197 : Enters Tryz.prog 197 := enters_of Tryz.func197 (by kernel_rfl) (by kernel_rfl)
theorem ent_198 : Enters Tryz.prog 198 := enters_of Tryz.func198 (by kernel_rfl) (by kernel_rfl)
theorem ent_199 : Enters Tryz.prog 199 := enters_of Tryz.func199 (by kernel_rfl) (by kernel_rfl)
theorem ent_200 : Enters Tryz.prog 200 := enters_of Tryz.func200 (by kernel_rfl) (by kernel_rfl)
theorem ent_201 : Enters Tryz.prog 201 := enters_of Tryz.func201 (by kernel_rfl) (by kernel_rfl)
theorem ent_207 : Enters Tryz.prog 207 := enters_of Tryz.func207 (by kernel_rfl) (by kernel_rfl)
theorem ent_219 : Enters Tryz.prog 219 := enters_of Tryz.func219 (by kernel_rfl) (by kernel_rfl)
theorem ent_221 : Enters Tryz.prog 221 := enters_of Tryz.func221 (by kernel_rfl) (by kernel_rfl)
theorem ent_222 : Enters Tryz.prog 222 := enters_of Tryz.func222 (by kernel_rfl) (by kernel_rfl)
theorem ent_223 : Enters Tryz.prog 223 := enters_of Tryz.func223 (by kernel_rfl) (by kernel_rfl)
theorem ent_224 : Enters Tryz.prog 224 := enters_of Tryz.func224 (by kernel_rfl) (by kernel_rfl)
theorem ent_225 : Enters Tryz.prog 225 := enters_of Tryz.func225 (by kernel_rfl) (by kernel_rfl)
theorem ent_226 : Enters Tryz.prog 226 := enters_of Tryz.func226 (by kernel_rfl) (by kernel_rfl)
theorem ent_227 : Enters Tryz.prog 227 := enters_of Tryz.func227 (by kernel_rfl) (by kernel_rfl)
theorem ent_228 : Enters Tryz.prog 228 := enters_of Tryz.func228 (by kernel_rfl) (by kernel_rfl)
theorem ent_229 : Enters Tryz.prog 229 := enters_of Tryz.func229 (by kernel_rfl) (by kernel_rfl)
theorem ent_230 : Enters Tryz.prog 230 := enters_of Tryz.func230 (by kernel_rfl) (by kernel_rfl)
theorem ent_232 : Enters Tryz.prog 232 := enters_of Tryz.func232 (by kernel_rfl) (by kernel_rfl)
theorem ent_233 : Enters Tryz.prog 233 := enters_of Tryz.func233 (by kernel_rfl) (by kernel_rfl)
theorem ent_234 : Enters Tryz.prog 234 := enters_of Tryz.func234 (by kernel_rfl) (by kernel_rfl)
theorem ent_235 : Enters Tryz.prog 235 := enters_of Tryz.func235 (by kernel_rfl) (by kernel_rfl)
theorem ent_236 : Enters Tryz.prog 236 := enters_of Tryz.func236 (by kernel_rfl) (by kernel_rfl)
theorem ent_237 : Enters Tryz.prog 237 := enters_of Tryz.func237 (by kernel_rfl) (by kernel_rfl)
theorem ent_238 : Enters Tryz.prog 238 := enters_of Tryz.func238 (by kernel_rfl) (by kernel_rfl)
theorem ent_239 : Enters Tryz.prog 239 := enters_of Tryz.func239 (by kernel_rfl) (by kernel_rfl)
theorem ent_240 : Enters Tryz.prog 240 := enters_of Tryz.func240 (by kernel_rfl) (by kernel_rfl)
theorem ent_241 : Enters Tryz.prog 241 := enters_of Tryz.func241 (by kernel_rfl) (by kernel_rfl)
theorem ent_242 : Enters Tryz.prog 242 := enters_of Tryz.func242 (by kernel_rfl) (by kernel_rfl)
theorem ent_243 : Enters Tryz.prog 243 := enters_of Tryz.func243 (by kernel_rfl) (by kernel_rfl)
theorem ent_244 : Enters Tryz.prog 244 := enters_of Tryz.func244 (by kernel_rfl) (by kernel_rfl)
theorem ent_245 : Enters Tryz.prog 245 := enters_of Tryz.func245 (by kernel_rfl) (by kernel_rfl)
theorem ent_246 : Enters Tryz.prog 246 := enters_of Tryz.func246 (by kernel_rfl) (by kernel_rfl)
theorem ent_247 : Enters Tryz.prog 247 := enters_of Tryz.func247 (by kernel_rfl) (by kernel_rfl)
theorem ent_248 : Enters Tryz.prog 248 := enters_of Tryz.func248 (by kernel_rfl) (by kernel_rfl)
theorem ent_254 : Enters Tryz.prog 254 := enters_of Tryz.func254 (by kernel_rfl) (by kernel_rfl)
theorem ent_255 : Enters Tryz.prog 255 := enters_of Tryz.func255 (by kernel_rfl) (by kernel_rfl)
theorem ent_256 : Enters Tryz.prog 256 := enters_of Tryz.func256 (by kernel_rfl) (by kernel_rfl)
theorem ent_257 : Enters Tryz.prog 257 := enters_of Tryz.func257 (by kernel_rfl) (by kernel_rfl)
theorem ent_262 : Enters Tryz.prog 262 := enters_of Tryz.func262 (by kernel_rfl) (by kernel_rfl)
theorem ent_263 : Enters Tryz.prog 263 := enters_of Tryz.func263 (by kernel_rfl) (by kernel_rfl)
theorem ent_264 : Enters Tryz.prog 264 := enters_of Tryz.func264 (by kernel_rfl) (by kernel_rfl)
theorem ent_265 : Enters Tryz.prog 265 := enters_of Tryz.func265 (by kernel_rfl) (by kernel_rfl)
theorem ent_266 : Enters Tryz.prog 266 := enters_of Tryz.func266 (by kernel_rfl) (by kernel_rfl)
theorem ent_267 : Enters Tryz.prog 267 := enters_of Tryz.func267 (by kernel_rfl) (by kernel_rfl)
theorem ent_268 : Enters Tryz.prog 268 := enters_of Tryz.func268 (by kernel_rfl) (by kernel_rfl)
theorem ent_269 : Enters Tryz.prog 269 := enters_of Tryz.func269 (by kernel_rfl) (by kernel_rfl)
theorem ent_270 : Enters Tryz.prog 270 := enters_of Tryz.func270 (by kernel_rfl) (by kernel_rfl)
theorem ent_276 : Enters Tryz.prog 276 := enters_of Tryz.func276 (by kernel_rfl) (by kernel_rfl)
theorem ent_279 : Enters Tryz.prog 279 := enters_of Tryz.func279 (by kernel_rfl) (by kernel_rfl)
theorem ent_294 : Enters Tryz.prog 294 := enters_of Tryz.func294 (by kernel_rfl) (by kernel_rfl)
theorem mixP : Tryz.prog.follows .mixedOrders = true := by kernel_rfl

end Go.Proofs.YtllnlmchjljhlaaGreatDoor
