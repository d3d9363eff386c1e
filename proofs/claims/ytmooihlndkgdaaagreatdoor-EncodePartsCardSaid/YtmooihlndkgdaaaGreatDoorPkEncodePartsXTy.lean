/- The types as a table, and which functions can be entered (written by gen_ty.py out of the translation). -/
import Derived.Test.YtmooihlndkgdaaaGreatDoorProg
import Derived.Test.YtmooihlndkgdaaaGreatDoorPkEncodePartsXAbB
namespace Go.Proofs.YtmooihlndkgdaaaGreatDoor
open Go.RowKit
set_option linter.unusedVariables false

theorem tyA_2 : tyA Tryz.prog 2 = some ⟨false, 1, 8, [.int .i64 0], 0, [], 13, []⟩ := by kernel_rfl
theorem tyA_3 : tyA Tryz.prog 3 = some ⟨false, 1, 8, [.int .i64 0], 0, [], 13, []⟩ := by kernel_rfl
theorem tyA_4 : tyA Tryz.prog 4 = some ⟨false, 1, 1, [.bool false], 0, [], 4, []⟩ := by kernel_rfl
theorem tyA_5 : tyA Tryz.prog 5 = some ⟨false, 1, 1, [.int .u8 0], 0, [], 14, []⟩ := by kernel_rfl
theorem tyA_6 : tyA Tryz.prog 6 = some ⟨false, 1, 1, [.int .u8 0], 0, [], 14, []⟩ := by kernel_rfl
theorem tyA_7 : tyA Tryz.prog 7 = some ⟨true, 4, 24, [.int .i64 0, .int .i64 0, .bool false, .int .u8 0], 0, [(0, 2), (1, 3), (2, 4), (3, 6)], 3, [(0, 1), (1, 1), (2, 1), (3, 1)]⟩ := by kernel_rfl
theorem tyA_8 : tyA Tryz.prog 8 = some ⟨true, 4, 24, [.int .i64 0, .int .i64 0, .bool false, .int .u8 0], 0, [(0, 2), (1, 3), (2, 4), (3, 6)], 3, [(0, 1), (1, 1), (2, 1), (3, 1)]⟩ := by kernel_rfl
theorem tyA_9 : tyA Tryz.prog 9 = some ⟨false, 1, 16, [.string ⟨#[]⟩], 0, [], 2, []⟩ := by kernel_rfl
theorem tyA_10 : tyA Tryz.prog 10 = some ⟨false, 1, 16, [.string ⟨#[]⟩], 0, [], 2, []⟩ := by kernel_rfl
theorem tyA_11 : tyA Tryz.prog 11 = some ⟨false, 1, 16, [.string ⟨#[]⟩], 0, [], 2, []⟩ := by kernel_rfl
theorem tyA_12 : tyA Tryz.prog 12 = some ⟨false, 1, 8, [.int .u64 0], 0, [], 17, []⟩ := by kernel_rfl
theorem tyA_13 : tyA Tryz.prog 13 = some ⟨true, 2, 24, [.string ⟨#[]⟩, .int .u64 0], 0, [(0, 9), (1, 12)], 3, [(0, 1), (1, 1)]⟩ := by kernel_rfl
theorem tyA_14 : tyA Tryz.prog 14 = some ⟨true, 2, 24, [.string ⟨#[]⟩, .int .u64 0], 0, [(0, 9), (1, 12)], 3, [(0, 1), (1, 1)]⟩ := by kernel_rfl
theorem tyA_15 : tyA Tryz.prog 15 = some ⟨false, 1, 8, [.pointer none], 238, [], 7, []⟩ := by kernel_rfl
theorem tyA_16 : tyA Tryz.prog 16 = some ⟨false, 1, 8, [.pointer none], 241, [], 7, []⟩ := by kernel_rfl
theorem tyA_17 : tyA Tryz.prog 17 = some ⟨false, 1, 8, [.pointer none], 250, [], 7, []⟩ := by kernel_rfl
theorem tyA_18 : tyA Tryz.prog 18 = some ⟨true, 1, 8, [.pointer none], 0, [(0, 17)], 3, [(0, 1)]⟩ := by kernel_rfl
theorem tyA_19 : tyA Tryz.prog 19 = some ⟨true, 1, 8, [.pointer none], 0, [(0, 17)], 3, [(0, 1)]⟩ := by kernel_rfl
theorem tyA_21 : tyA Tryz.prog 21 = some ⟨false, 1, 4, [.int .i32 0], 0, [], 12, []⟩ := by kernel_rfl
theorem tyA_22 : tyA Tryz.prog 22 = some ⟨false, 1, 24, [.slice none 0 0], 33, [], 1, []⟩ := by kernel_rfl
theorem tyA_23 : tyA Tryz.prog 23 = some ⟨true, 2, 32, [.slice none 0 0, .int .i64 0], 0, [(0, 22), (1, 3)], 3, [(0, 1), (1, 1)]⟩ := by kernel_rfl
theorem tyA_24 : tyA Tryz.prog 24 = some ⟨true, 2, 32, [.slice none 0 0, .int .i64 0], 0, [(0, 22), (1, 3)], 3, [(0, 1), (1, 1)]⟩ := by kernel_rfl
theorem tyA_29 : tyA Tryz.prog 29 = some ⟨false, 1, 24, [.slice none 0 0], 9, [], 1, []⟩ := by kernel_rfl
theorem tyA_30 : tyA Tryz.prog 30 = some ⟨false, 1, 24, [.slice none 0 0], 38, [], 1, []⟩ := by kernel_rfl
theorem tyA_31 : tyA Tryz.prog 31 = some ⟨false, 1, 24, [.slice none 0 0], 3, [], 1, []⟩ := by kernel_rfl
theorem tyA_32 : tyA Tryz.prog 32 = some ⟨true, 10, 160, [.int .i64 0, .string ⟨#[]⟩, .slice none 0 0, .slice none 0 0, .slice none 0 0, .bool false, .string ⟨#[]⟩, .int .i64 0, .int .i64 0, .slice none 0 0], 0, [(0, 3), (1, 9), (2, 29), (3, 30), (4, 29), (5, 4), (6, 9), (7, 3), (8, 3), (9, 31)], 3, [(0, 1), (1, 1), (2, 1), (3, 1), (4, 1), (5, 1), (6, 1), (7, 1), (8, 1), (9, 1)]⟩ := by kernel_rfl
theorem tyA_33 : tyA Tryz.prog 33 = some ⟨true, 10, 160, [.int .i64 0, .string ⟨#[]⟩, .slice none 0 0, .slice none 0 0, .slice none 0 0, .bool false, .string ⟨#[]⟩, .int .i64 0, .int .i64 0, .slice none 0 0], 0, [(0, 3), (1, 9), (2, 29), (3, 30), (4, 29), (5, 4), (6, 9), (7, 3), (8, 3), (9, 31)], 3, [(0, 1), (1, 1), (2, 1), (3, 1), (4, 1), (5, 1), (6, 1), (7, 1), (8, 1), (9, 1)]⟩ := by kernel_rfl
theorem tyA_34 : tyA Tryz.prog 34 = some ⟨false, 1, 24, [.slice none 0 0], 36, [], 1, []⟩ := by kernel_rfl
theorem tyA_35 : tyA Tryz.prog 35 = some ⟨true, 5, 80, [.int .i64 0, .int .i64 0, .string ⟨#[]⟩, .slice none 0 0, .slice none 0 0], 0, [(0, 3), (1, 2), (2, 9), (3, 34), (4, 29)], 3, [(0, 1), (1, 1), (2, 1), (3, 1), (4, 1)]⟩ := by kernel_rfl
theorem tyA_36 : tyA Tryz.prog 36 = some ⟨true, 5, 80, [.int .i64 0, .int .i64 0, .string ⟨#[]⟩, .slice none 0 0, .slice none 0 0], 0, [(0, 3), (1, 2), (2, 9), (3, 34), (4, 29)], 3, [(0, 1), (1, 1), (2, 1), (3, 1), (4, 1)]⟩ := by kernel_rfl
theorem tyA_37 : tyA Tryz.prog 37 = some ⟨true, 9, 136, [.string ⟨#[]⟩, .slice none 0 0, .int .i64 0, .bool false, .int .i64 0, .int .i64 0, .string ⟨#[]⟩, .slice none 0 0, .slice none 0 0], 0, [(0, 9), (1, 29), (2, 3), (3, 4), (4, 36)], 3, [(0, 1), (1, 1), (2, 1), (3, 1), (4, 5)]⟩ := by kernel_rfl
theorem tyA_38 : tyA Tryz.prog 38 = some ⟨true, 9, 136, [.string ⟨#[]⟩, .slice none 0 0, .int .i64 0, .bool false, .int .i64 0, .int .i64 0, .string ⟨#[]⟩, .slice none 0 0, .slice none 0 0], 0, [(0, 9), (1, 29), (2, 3), (3, 4), (4, 36)], 3, [(0, 1), (1, 1), (2, 1), (3, 1), (4, 5)]⟩ := by kernel_rfl
theorem tyA_39 : tyA Tryz.prog 39 = some ⟨false, 1, 8, [.int .u64 0], 0, [], 17, []⟩ := by kernel_rfl
theorem tyA_40 : tyA Tryz.prog 40 = some ⟨false, 1, 24, [.slice none 0 0], 5, [], 1, []⟩ := by kernel_rfl
theorem tyA_41 : tyA Tryz.prog 41 = some ⟨false, 1, 24, [.slice none 0 0], 43, [], 1, []⟩ := by kernel_rfl
theorem tyA_42 : tyA Tryz.prog 42 = some ⟨true, 6, 96, [.int .i64 0, .int .i64 0, .int .u64 0, .slice none 0 0, .slice none 0 0, .slice none 0 0], 0, [(0, 3), (1, 2), (2, 39), (3, 40), (4, 41), (5, 29)], 3, [(0, 1), (1, 1), (2, 1), (3, 1), (4, 1), (5, 1)]⟩ := by kernel_rfl
theorem tyA_43 : tyA Tryz.prog 43 = some ⟨true, 6, 96, [.int .i64 0, .int .i64 0, .int .u64 0, .slice none 0 0, .slice none 0 0, .slice none 0 0], 0, [(0, 3), (1, 2), (2, 39), (3, 40), (4, 41), (5, 29)], 3, [(0, 1), (1, 1), (2, 1), (3, 1), (4, 1), (5, 1)]⟩ := by kernel_rfl
theorem tyA_51 : tyA Tryz.prog 51 = some ⟨false, 1, 8, [.int .i64 0], 0, [], 13, []⟩ := by kernel_rfl
theorem tyA_73 : tyA Tryz.prog 73 = some ⟨false, 1, 8, [.pointer none], 33, [], 7, []⟩ := by kernel_rfl
theorem tyA_77 : tyA Tryz.prog 77 = some ⟨false, 1, 8, [.pointer none], 38, [], 7, []⟩ := by kernel_rfl
theorem tyA_99 : tyA Tryz.prog 99 = some ⟨false, 1, 8, [.pointer none], 101, [], 7, []⟩ := by kernel_rfl
theorem tyA_100 : tyA Tryz.prog 100 = some ⟨true, 3, 40, [.slice none 0 0, .int .i64 0, .int .i64 0], 0, [(0, 24), (2, 3)], 3, [(0, 2), (2, 1)]⟩ := by kernel_rfl
theorem tyA_101 : tyA Tryz.prog 101 = some ⟨true, 3, 40, [.slice none 0 0, .int .i64 0, .int .i64 0], 0, [(0, 24), (2, 3)], 3, [(0, 2), (2, 1)]⟩ := by kernel_rfl
theorem tyA_114 : tyA Tryz.prog 114 = some ⟨false, 1, 8, [.int .u64 0], 0, [], 17, []⟩ := by kernel_rfl
theorem tyA_120 : tyA Tryz.prog 120 = some ⟨false, 1, 8, [.pointer none], 122, [], 7, []⟩ := by kernel_rfl
theorem tyA_121 : tyA Tryz.prog 121 = some ⟨true, 3, 40, [.slice none 0 0, .int .i64 0, .int .i64 0], 0, [(0, 24), (2, 3)], 3, [(0, 2), (2, 1)]⟩ := by kernel_rfl
theorem tyA_122 : tyA Tryz.prog 122 = some ⟨true, 3, 40, [.slice none 0 0, .int .i64 0, .int .i64 0], 0, [(0, 24), (2, 3)], 3, [(0, 2), (2, 1)]⟩ := by kernel_rfl
theorem tyA_131 : tyA Tryz.prog 131 = some ⟨true, 16, 16, [.int .u8 0, .int .u8 0, .int .u8 0, .int .u8 0, .int .u8 0, .int .u8 0, .int .u8 0, .int .u8 0, .int .u8 0, .int .u8 0, .int .u8 0, .int .u8 0, .int .u8 0, .int .u8 0, .int .u8 0, .int .u8 0], 5, [(16, 5)], 6, []⟩ := by kernel_rfl
theorem tyA_132 : tyA Tryz.prog 132 = some ⟨false, 1, 8, [.pointer none], 135, [], 7, []⟩ := by kernel_rfl
theorem tyA_133 : tyA Tryz.prog 133 = some ⟨false, 1, 24, [.slice none 0 0], 4, [], 1, []⟩ := by kernel_rfl
theorem tyA_134 : tyA Tryz.prog 134 = some ⟨true, 4, 80, [.slice none 0 0, .int .i64 0, .slice none 0 0, .slice none 0 0], 0, [(0, 24), (2, 133), (3, 40)], 3, [(0, 2), (2, 1), (3, 1)]⟩ := by kernel_rfl
theorem tyA_135 : tyA Tryz.prog 135 = some ⟨true, 4, 80, [.slice none 0 0, .int .i64 0, .slice none 0 0, .slice none 0 0], 0, [(0, 24), (2, 133), (3, 40)], 3, [(0, 2), (2, 1), (3, 1)]⟩ := by kernel_rfl
theorem tyA_138 : tyA Tryz.prog 138 = some ⟨false, 1, 8, [.pointer none], 140, [], 7, []⟩ := by kernel_rfl
theorem tyA_139 : tyA Tryz.prog 139 = some ⟨true, 4, 64, [.slice none 0 0, .int .i64 0, .slice none 0 0, .int .i64 0], 0, [(0, 24), (2, 31), (3, 3)], 3, [(0, 2), (2, 1), (3, 1)]⟩ := by kernel_rfl
theorem tyA_140 : tyA Tryz.prog 140 = some ⟨true, 4, 64, [.slice none 0 0, .int .i64 0, .slice none 0 0, .int .i64 0], 0, [(0, 24), (2, 31), (3, 3)], 3, [(0, 2), (2, 1), (3, 1)]⟩ := by kernel_rfl
theorem tyA_149 : tyA Tryz.prog 149 = some ⟨false, 1, 4, [.int .u32 0], 0, [], 16, []⟩ := by kernel_rfl
theorem tyA_163 : tyA Tryz.prog 163 = some ⟨true, 15, 240, [.string ⟨#[]⟩, .string ⟨#[]⟩, .string ⟨#[]⟩, .string ⟨#[]⟩, .string ⟨#[]⟩, .string ⟨#[]⟩, .string ⟨#[]⟩, .string ⟨#[]⟩, .string ⟨#[]⟩, .string ⟨#[]⟩, .string ⟨#[]⟩, .string ⟨#[]⟩, .string ⟨#[]⟩, .string ⟨#[]⟩, .string ⟨#[]⟩], 9, [(15, 9)], 6, []⟩ := by kernel_rfl
theorem tyA_168 : tyA Tryz.prog 168 = some ⟨false, 1, 8, [.int .u64 0], 0, [], 17, []⟩ := by kernel_rfl
theorem tyA_210 : tyA Tryz.prog 210 = some ⟨false, 1, 24, [.slice none 0 0], 2, [], 1, []⟩ := by kernel_rfl
theorem tyA_212 : tyA Tryz.prog 212 = some ⟨false, 1, 24, [.slice none 0 0], 40, [], 1, []⟩ := by kernel_rfl
theorem tyA_219 : tyA Tryz.prog 219 = some ⟨false, 1, 8, [.int .i64 0], 0, [], 13, []⟩ := by kernel_rfl
theorem tyA_227 : tyA Tryz.prog 227 = some ⟨false, 1, 8, [.int .u64 0], 0, [], 17, []⟩ := by kernel_rfl
theorem tyA_231 : tyA Tryz.prog 231 = some ⟨false, 1, 8, [.pointer none], 3, [], 7, []⟩ := by kernel_rfl
theorem tyA_233 : tyA Tryz.prog 233 = some ⟨false, 1, 8, [.pointer none], 227, [], 7, []⟩ := by kernel_rfl
theorem tyA_237 : tyA Tryz.prog 237 = some ⟨true, 4, 40, [.pointer none, .pointer none, .pointer none, .string ⟨#[]⟩], 0, [(0, 17), (1, 17), (2, 17), (3, 9)], 3, [(0, 1), (1, 1), (2, 1), (3, 1)]⟩ := by kernel_rfl
theorem tyA_238 : tyA Tryz.prog 238 = some ⟨true, 4, 40, [.pointer none, .pointer none, .pointer none, .string ⟨#[]⟩], 0, [(0, 17), (1, 17), (2, 17), (3, 9)], 3, [(0, 1), (1, 1), (2, 1), (3, 1)]⟩ := by kernel_rfl
theorem tyA_239 : tyA Tryz.prog 239 = some ⟨true, 0, 0, [], 16, [(0, 16)], 6, []⟩ := by kernel_rfl
theorem tyA_240 : tyA Tryz.prog 240 = some ⟨true, 0, 0, [], 0, [(0, 239)], 3, [(0, 0)]⟩ := by kernel_rfl
theorem tyA_241 : tyA Tryz.prog 241 = some ⟨true, 0, 0, [], 0, [(0, 239)], 3, [(0, 0)]⟩ := by kernel_rfl
theorem tyA_243 : tyA Tryz.prog 243 = some ⟨false, 1, 1, [.int .u8 0], 0, [], 14, []⟩ := by kernel_rfl
theorem tyA_244 : tyA Tryz.prog 244 = some ⟨false, 1, 1, [.int .u8 0], 0, [], 14, []⟩ := by kernel_rfl
theorem tyA_246 : tyA Tryz.prog 246 = some ⟨false, 1, 8, [.pointer none], 5, [], 7, []⟩ := by kernel_rfl
theorem tyA_247 : tyA Tryz.prog 247 = some ⟨false, 1, 4, [.int .i32 0], 0, [], 12, []⟩ := by kernel_rfl
theorem tyA_248 : tyA Tryz.prog 248 = some ⟨false, 1, 4, [.int .i32 0], 0, [], 12, []⟩ := by kernel_rfl
theorem tyA_251 : tyA Tryz.prog 251 = some ⟨false, 1, 8, [.pointer none], 0, [], 8, []⟩ := by kernel_rfl
theorem ent_8 : Enters Tryz.prog 8 := enters_of Tryz.func8 (by kernel_rfl) (by kernel_rfl)
theorem ent_13 : Enters Tryz.prog 13 := enters_of Tryz.func13 (by kernel_rfl) (by kernel_rfl)
theorem ent_17 : Enters Tryz.prog 17 := enters_of Tryz.func17 (by kernel_rfl) (by kernel_rfl)
theorem ent_18 : Enters Tryz.prog 18 := enters_of Tryz.func18 (by kernel_rfl) (by kernel_rfl)
theorem ent_24 : Enters Tryz.prog 24 := enters_of Tryz.func24 (by kernel_rfl) (by kernel_rfl)
theorem ent_26 : Enters Tryz.prog 26 := enters_of Tryz.func26 (by kernel_rfl) (by kernel_rfl)
theorem ent_27 : Enters Tryz.prog 27 := enters_of Tryz.func27 (by kernel_rfl) (by kernel_rfl)
theorem ent_28 : Enters Tryz.prog 28 := enters_of Tryz.func28 (by kernel_rfl) (by kernel_rfl)
theorem ent_32 : Enters Tryz.prog 32 := enters_of Tryz.func32 (by kernel_rfl) (by kernel_rfl)
theorem ent_33 : Enters Tryz.prog 33 := enters_of Tryz.func33 (by kernel_rfl) (by kernel_rfl)
theorem ent_42 : Enters Tryz.prog 42 := enters_of Tryz.func42 (by kernel_rfl) (by kernel_rfl)
theorem ent_51 : Enters Tryz.prog 51 := enters_of Tryz.func51 (by kernel_rfl) (by kernel_rfl)
theorem ent_52 : Enters Tryz.prog 52 := enters_of Tryz.func52 (by kernel_rfl) (by kernel_rfl)
theorem ent_58 : Enters Tryz.prog 58 := enters_of Tryz.func58 (by kernel_rfl) (by kernel_rfl)
theorem ent_61 : Enters Tryz.prog 61 := enters_of Tryz.func61 (by kernel_rfl) (by kernel_rfl)
theorem ent_62 : Enters Tryz.prog 62 := enters_of Tryz.func62 (by kernel_rfl) (by kernel_rfl)
theorem ent_63 : Enters Tryz.prog 63 := enters_of Tryz.func63 (by kernel_rfl) (by kernel_rfl)
theorem ent_64 : Enters Tryz.prog 64 := enters_of Tryz.func64 (by kernel_rfl) (by kernel_rfl)
theorem ent_65 : Enters Tryz.prog 65 := enters_of Tryz.func65 (by kernel_rfl) (by kernel_rfl)
theorem ent_72 : Enters Tryz.prog 72 := enters_of Tryz.func72 (by kernel_rfl) (by kernel_rfl)
theorem ent_73 : Enters Tryz.prog 73 := enters_of Tryz.func73 (by kernel_rfl) (by kernel_rfl)
theorem ent_74 : Enters Tryz.prog 74 := enters_of Tryz.func74 (by kernel_rfl) (by kernel_rfl)
theorem ent_78 : Enters Tryz.prog 78 := enters_of Tryz.func78 (by kernel_rfl) (by kernel_rfl)
theorem ent_82 : Enters Tryz.prog 82 := enters_of Tryz.func82 (by kernel_rfl) (by kernel_rfl)
theorem ent_89 : Enters Tryz.prog 89 := enters_of Tryz.func89 (by kernel_rfl) (by kernel_rfl)
theorem ent_90 : Enters Tryz.prog 90 := enters_of Tryz.func90 (by kernel_rfl) (by kernel_rfl)
theorem ent_91 : Enters Tryz.prog 91 := enters_of Tryz.func91 (by kernel_rfl) (by kernel_rfl)
theorem ent_92 : Enters Tryz.prog 92 := enters_of Tryz.func92 (by kernel_rfl) (by kernel_rfl)
theorem ent_93 : Enters Tryz.prog 93 := enters_of Tryz.func93 (by kernel_rfl) (by kernel_rfl)
theorem ent_94 : Enters Tryz.prog 94 := enters_of Tryz.func94 (by kernel_rfl) (by kernel_rfl)
theorem ent_101 : Enters Tryz.prog 101 := enters_of Tryz.func101 (by kernel_rfl) (by kernel_rfl)
theorem ent_102 : Enters Tryz.prog 102 := enters_of Tryz.func102 (by kernel_rfl) (by kernel_rfl)
theorem ent_103 : Enters Tryz.prog 103 := enters_of Tryz.func103 (by kernel_rfl) (by kernel_rfl)
theorem ent_104 : Enters Tryz.prog 104 := enters_of Tryz.func104 (by kernel_rfl) (by kernel_rfl)
theorem ent_105 : Enters Tryz.prog 105 := enters_of Tryz.func105 (by kernel_rfl) (by kernel_rfl)
theorem ent_106 : Enters Tryz.prog 106 := enters_of Tryz.func106 (by kernel_rfl) (by kernel_rfl)
theorem ent_107 : Enters Tryz.prog 107 := enters_of Tryz.func107 (by kernel_rfl) (by kernel_rfl)
theorem ent_108 : Enters Tryz.prog 108 := enters_of Tryz.func108 (by kernel_rfl) (by kernel_rfl)
theorem ent_109 : Enters Tryz.prog 109 := enters_of Tryz.func109 (by kernel_rfl) (by kernel_rfl)
theorem ent_110 : Enters Tryz.prog 110 := enters_of Tryz.func110 (by kernel_rfl) (by kernel_rfl)
theorem ent_116 : Enters Tryz.prog 116 := enters_of Tryz.func116 (by kernel_rfl) (by kernel_rfl)
theorem ent_117 : Enters Tryz.prog 117 := enters_of Tryz.func117 (by kernel_rfl) (by kernel_rfl)
theorem ent_120 : Enters Tryz.prog 120 := enters_of Tryz.func120 (by kernel_rfl) (by kernel_rfl)
theorem ent_131 : Enters Tryz.prog 131 := enters_of Tryz.func131 (by kernel_rfl) (by kernel_rfl)
theorem ent_132 : Enters Tryz.prog 132 := enters_of Tryz.func132 (by kernel_rfl) (by kernel_rfl)
theorem ent_133 : Enters Tryz.prog 133 := enters_of Tryz.func133 (by kernel_rfl) (by kernel_rfl)
theorem ent_134 : Enters Tryz.prog 134 := enters_of Tryz.func134 (by kernel_rfl) (by kernel_rfl)
theorem ent_141 : Enters Tryz.prog 141 := enters_of Tryz.func141 (by kernel_rfl) (by kernel_rfl)
theorem ent_142 : Enters Tryz.prog 142 := enters_of Tryz.func142 (by kernel_rfl) (by kernel_rfl)
theorem ent_143 : Enters Tryz.prog 143 := enters_of Tryz.func143 (by kernel_rfl) (by kernel_rfl)
theorem ent_144 : Enters Tryz.prog 144 := enters_of Tryz.func144 (by kernel_rfl) (by kernel_rfl)
theorem ent_145 : Enters Tryz.prog 145 := enters_of Tryz.func145 (by kernel_rfl) (by kernel_rfl)
theorem ent_158 : Enters Tryz.prog 158 := enters_of Tryz.func158 (by kernel_rfl) (by kernel_rfl)
theorem ent_159 : Enters Tryz.prog 159 := enters_of Tryz.func159 (by kernel_rfl) (by kernel_rfl)
theorem ent_160 : Enters Tryz.prog 160 := enters_of Tryz.func160 (by kernel_rfl) (by kernel_rfl)
theorem ent_161 : Enters Tryz.prog 161 := enters_of Tryz.func161 (by kernel_rfl) (by kernel_rfl)
theorem ent_162 : Enters Tryz.prog 162 := enters_of Tryz.func162 (by kernel_rfl) (by kernel_rfl)
theorem ent_163 : Enters Tryz.prog 163 := enters_of Tryz.func163 (by kernel_rfl) (by kernel_rfl)
theorem ent_164 : Enters Tryz.prog 164 := enters_of Tryz.func164 (by kernel_rfl) (by kernel_rfl)
theorem ent_165 : Enters Tryz.prog 165 := enters_of Tryz.func165 (by kernel_rfl) (by kernel_rfl)
theorem ent_166 : Enters Tryz.prog 166 := enters_of Tryz.func166 (by kernel_rfl) (by kernel_rfl)
theorem ent_167 : Enters Tryz.prog 167 := enters_of Tryz.func167 (by kernel_rfl) (by kernel_rfl)
theorem ent_168 : Enters Tryz.prog 168 := enters_of Tryz.func168 (by kernel_rfl) (by kernel_rfl)
theorem ent_178 : Enters Tryz.prog 178 := enters_of Tryz.func178 (by kernel_rfl) (by kernel_rfl)
theorem ent_179 : Enters Tryz.prog 179 := enters_of Tryz.func179 (by kernel_rfl) (by kernel_rfl)
theorem ent_182 : Enters Tryz.prog 182 := enters_of Tryz.func182 (by kernel_rfl) (by kernel_rfl)
theorem ent_183 : Enters Tryz.prog 183 := enters_of Tryz.func183 (by kernel_rfl) (by kernel_rfl)
theorem ent_187 : Enters Tryz.prog 187 := enters_of Tryz.func187 (by kernel_rfl) (by kernel_rfl)
theorem ent_188 : Enters Tryz.prog 188 := enters_of Tryz.func188 (by kernel_rfl) (by kernel_rfl)
theorem ent_189 : Enters Tryz.prog 189 := enters_of Tryz.func189 (by kernel_rfl) (by kernel_rfl)
theorem ent_190 : Enters Tryz.prog 190 := enters_of Tryz.func190 (by kernel_rfl) (by kernel_rfl)
theorem ent_191 : Enters Tryz.prog 191 := enters_of Tryz.func191 (by kernel_rfl) (by kernel_rfl)
theorem ent_192 : Enters Tryz.prog 192 := enters_of Tryz.func192 (by kernel_rfl) (by kernel_rfl)
theorem ent_193 : Enters Tryz.prog 193 := enters_of Tryz.func193 (by kernel_rfl) (by kernel_rfl)
theorem ent_198 : Enters Tryz.prog 198 := enters_of Tryz.func198 (by kernel_rfl) (by kernel_rfl)
theorem ent_199 : Enters Tryz.prog 199 := enters_of Tryz.func199 (by kernel_rfl) (by kernel_rfl)
theorem ent_206 : Enters Tryz.prog 206 := enters_of Tryz.func206 (by kernel_rfl) (by kernel_rfl)
theorem ent_207 : Enters Tryz.prog 207 := enters_of Tryz.func207 (by kernel_rfl) (by kernel_rfl)
theorem ent_215 : Enters Tryz.prog 215 := enters_of Tryz.func215 (by kernel_rfl) (by kernel_rfl)
theorem mixP : Tryz.prog.follows .mixedOrders = true := by kernel_rfl

end Go.Proofs.YtmooihlndkgdaaaGreatDoor
