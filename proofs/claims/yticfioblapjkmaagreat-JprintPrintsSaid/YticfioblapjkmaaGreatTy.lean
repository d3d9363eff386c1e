/- The types as a table, and which functions can be entered (written by gen_ty.py out of the translation). -/
import Derived.Test.YticfioblapjkmaaGreatProg
import Derived.Test.YticfioblapjkmaaGreatAbB
namespace Go.Proofs.YticfioblapjkmaaGreat
open Go.RowKit
set_option linter.unusedVariables false

theorem tyA_2 : tyA Tryz.prog 2 = some ⟨false, 1, 8, [.int .i64 0], 0, [], 13, []⟩ := by kernel_rfl
theorem tyA_3 : tyA Tryz.prog 3 = some ⟨false, 1, 8, [.int .i64 0], 0, [], 13, []⟩ := by kernel_rfl
theorem tyA_4 : tyA Tryz.prog 4 = some ⟨false, 1, 1, [.bool false], 0, [], 4, []⟩ := by kernel_rfl
theorem tyA_5 : tyA Tryz.prog 5 = some ⟨false, 1, 1, [.int .u8 0], 0, [], 14, []⟩ := by kernel_rfl
theorem tyA_6 : tyA Tryz.prog 6 = some ⟨false, 1, 1, [.int .u8 0], 0, [], 14, []⟩ := by kernel_rfl
theorem tyA_7 : tyA Tryz.prog 7 = some ⟨true, 4, 24, [.int .i64 0, .int .i64 0, .bool false, .int .u8 0], 0, [(0, 2), (1, 3), (2, 4), (3, 6)], 3, [(0, 1), (1, 1), (2, 1), (3, 1)]⟩ := by kernel_rfl
theorem tyA_8 : tyA Tryz.prog 8 = some ⟨true, 4, 24, [.int .i64 0, .int .i64 0, .bool false, .int .u8 0], 0, [(0, 2), (1, 3), (2, 4), (3, 6)], 3, [(0, 1), (1, 1), (2, 1), (3, 1)]⟩ := by kernel_rfl
theorem tyA_9 : tyA Tryz.prog 9 = some ⟨false, 1, 16, [.string ⟨#[]⟩], 0, [], 2, []⟩ := by kernel_rfl
theorem tyA_10 : tyA Tryz.prog 10 = some ⟨false, 1, 16, [.string ⟨#[]⟩], 0, [], 2, []⟩ := by kernel_rfl
theorem tyA_11 : tyA Tryz.prog 11 = some ⟨false, 1, 16, [.string ⟨#[]⟩], 0, [], 2, []⟩ := by kernel_rfl
theorem tyA_12 : tyA Tryz.prog 12 = some ⟨false, 1, 8, [.int .u64 0], 0, [], 17, []⟩ := by kernel_rfl
theorem tyA_13 : tyA Tryz.prog 13 = some ⟨true, 2, 24, [.string ⟨#[]⟩, .int .u64 0], 0, [(0, 9), (1, 12)], 3, [(0, 1), (1, 1)]⟩ := by kernel_rfl
theorem tyA_14 : tyA Tryz.prog 14 = some ⟨true, 2, 24, [.string ⟨#[]⟩, .int .u64 0], 0, [(0, 9), (1, 12)], 3, [(0, 1), (1, 1)]⟩ := by kernel_rfl
theorem tyA_15 : tyA Tryz.prog 15 = some ⟨false, 1, 8, [.pointer none], 150, [], 7, []⟩ := by kernel_rfl
theorem tyA_16 : tyA Tryz.prog 16 = some ⟨false, 1, 8, [.pointer none], 153, [], 7, []⟩ := by kernel_rfl
theorem tyA_17 : tyA Tryz.prog 17 = some ⟨false, 1, 8, [.pointer none], 160, [], 7, []⟩ := by kernel_rfl
theorem tyA_18 : tyA Tryz.prog 18 = some ⟨true, 1, 8, [.pointer none], 0, [(0, 17)], 3, [(0, 1)]⟩ := by kernel_rfl
theorem tyA_19 : tyA Tryz.prog 19 = some ⟨true, 1, 8, [.pointer none], 0, [(0, 17)], 3, [(0, 1)]⟩ := by kernel_rfl
theorem tyA_21 : tyA Tryz.prog 21 = some ⟨false, 1, 4, [.int .i32 0], 0, [], 12, []⟩ := by kernel_rfl
theorem tyA_22 : tyA Tryz.prog 22 = some ⟨false, 1, 24, [.slice none 0 0], 25, [], 1, []⟩ := by kernel_rfl
theorem tyA_23 : tyA Tryz.prog 23 = some ⟨false, 1, 24, [.slice none 0 0], 9, [], 1, []⟩ := by kernel_rfl
theorem tyA_24 : tyA Tryz.prog 24 = some ⟨true, 5, 80, [.int .i64 0, .int .i64 0, .string ⟨#[]⟩, .slice none 0 0, .slice none 0 0], 0, [(0, 3), (1, 2), (2, 9), (3, 22), (4, 23)], 3, [(0, 1), (1, 1), (2, 1), (3, 1), (4, 1)]⟩ := by kernel_rfl
theorem tyA_25 : tyA Tryz.prog 25 = some ⟨true, 5, 80, [.int .i64 0, .int .i64 0, .string ⟨#[]⟩, .slice none 0 0, .slice none 0 0], 0, [(0, 3), (1, 2), (2, 9), (3, 22), (4, 23)], 3, [(0, 1), (1, 1), (2, 1), (3, 1), (4, 1)]⟩ := by kernel_rfl
theorem tyA_28 : tyA Tryz.prog 28 = some ⟨false, 1, 24, [.slice none 0 0], 5, [], 1, []⟩ := by kernel_rfl
theorem tyA_29 : tyA Tryz.prog 29 = some ⟨false, 1, 8, [.int .i64 0], 0, [], 13, []⟩ := by kernel_rfl
theorem tyA_38 : tyA Tryz.prog 38 = some ⟨false, 1, 8, [.pointer none], 43, [], 7, []⟩ := by kernel_rfl
theorem tyA_39 : tyA Tryz.prog 39 = some ⟨false, 1, 8, [.pointer none], 41, [], 7, []⟩ := by kernel_rfl
theorem tyA_40 : tyA Tryz.prog 40 = some ⟨true, 2, 32, [.pointer none, .slice none 0 0], 0, [(0, 39), (1, 28)], 3, [(0, 1), (1, 1)]⟩ := by kernel_rfl
theorem tyA_41 : tyA Tryz.prog 41 = some ⟨true, 2, 32, [.pointer none, .slice none 0 0], 0, [(0, 39), (1, 28)], 3, [(0, 1), (1, 1)]⟩ := by kernel_rfl
theorem tyA_42 : tyA Tryz.prog 42 = some ⟨true, 3, 40, [.pointer none, .slice none 0 0, .bool false], 0, [(0, 41), (2, 4)], 3, [(0, 2), (2, 1)]⟩ := by kernel_rfl
theorem tyA_43 : tyA Tryz.prog 43 = some ⟨true, 3, 40, [.pointer none, .slice none 0 0, .bool false], 0, [(0, 41), (2, 4)], 3, [(0, 2), (2, 1)]⟩ := by kernel_rfl
theorem tyA_49 : tyA Tryz.prog 49 = some ⟨false, 1, 8, [.pointer none], 53, [], 7, []⟩ := by kernel_rfl
theorem tyA_50 : tyA Tryz.prog 50 = some ⟨true, 5, 48, [.int .i64 0, .int .i64 0, .string ⟨#[]⟩, .int .i64 0, .int .i64 0], 0, [(0, 3), (1, 2), (2, 9), (3, 3), (4, 3)], 3, [(0, 1), (1, 1), (2, 1), (3, 1), (4, 1)]⟩ := by kernel_rfl
theorem tyA_51 : tyA Tryz.prog 51 = some ⟨true, 5, 48, [.int .i64 0, .int .i64 0, .string ⟨#[]⟩, .int .i64 0, .int .i64 0], 0, [(0, 3), (1, 2), (2, 9), (3, 3), (4, 3)], 3, [(0, 1), (1, 1), (2, 1), (3, 1), (4, 1)]⟩ := by kernel_rfl
theorem tyA_52 : tyA Tryz.prog 52 = some ⟨true, 8, 88, [.slice none 0 0, .int .i64 0, .int .i64 0, .int .i64 0, .int .i64 0, .string ⟨#[]⟩, .int .i64 0, .int .i64 0], 0, [(0, 28), (1, 3), (2, 29), (3, 51)], 3, [(0, 1), (1, 1), (2, 1), (3, 5)]⟩ := by kernel_rfl
theorem tyA_53 : tyA Tryz.prog 53 = some ⟨true, 8, 88, [.slice none 0 0, .int .i64 0, .int .i64 0, .int .i64 0, .int .i64 0, .string ⟨#[]⟩, .int .i64 0, .int .i64 0], 0, [(0, 28), (1, 3), (2, 29), (3, 51)], 3, [(0, 1), (1, 1), (2, 1), (3, 5)]⟩ := by kernel_rfl
theorem tyA_57 : tyA Tryz.prog 57 = some ⟨false, 1, 8, [.int .u64 0], 0, [], 17, []⟩ := by kernel_rfl
theorem tyA_62 : tyA Tryz.prog 62 = some ⟨false, 1, 8, [.pointer none], 5, [], 7, []⟩ := by kernel_rfl
theorem tyA_76 : tyA Tryz.prog 76 = some ⟨false, 1, 8, [.int .u64 0], 0, [], 17, []⟩ := by kernel_rfl
theorem tyA_87 : tyA Tryz.prog 87 = some ⟨false, 1, 8, [.pointer none], 89, [], 7, []⟩ := by kernel_rfl
theorem tyA_88 : tyA Tryz.prog 88 = some ⟨true, 4, 64, [.slice none 0 0, .int .i64 0, .int .i64 0, .slice none 0 0], 0, [(0, 28), (1, 3), (2, 29), (3, 28)], 3, [(0, 1), (1, 1), (2, 1), (3, 1)]⟩ := by kernel_rfl
theorem tyA_89 : tyA Tryz.prog 89 = some ⟨true, 4, 64, [.slice none 0 0, .int .i64 0, .int .i64 0, .slice none 0 0], 0, [(0, 28), (1, 3), (2, 29), (3, 28)], 3, [(0, 1), (1, 1), (2, 1), (3, 1)]⟩ := by kernel_rfl
theorem tyA_100 : tyA Tryz.prog 100 = some ⟨true, 3, 32, [.string ⟨#[]⟩, .int .i64 0, .int .i64 0], 0, [(0, 9), (1, 3), (2, 2)], 3, [(0, 1), (1, 1), (2, 1)]⟩ := by kernel_rfl
theorem tyA_101 : tyA Tryz.prog 101 = some ⟨true, 3, 32, [.string ⟨#[]⟩, .int .i64 0, .int .i64 0], 0, [(0, 9), (1, 3), (2, 2)], 3, [(0, 1), (1, 1), (2, 1)]⟩ := by kernel_rfl
theorem tyA_102 : tyA Tryz.prog 102 = some ⟨true, 9, 96, [.string ⟨#[]⟩, .int .i64 0, .int .i64 0, .string ⟨#[]⟩, .int .i64 0, .int .i64 0, .string ⟨#[]⟩, .int .i64 0, .int .i64 0], 101, [(3, 101)], 6, []⟩ := by kernel_rfl
theorem tyA_106 : tyA Tryz.prog 106 = some ⟨false, 1, 8, [.pointer none], 0, [], 8, []⟩ := by kernel_rfl
theorem tyA_119 : tyA Tryz.prog 119 = some ⟨false, 1, 8, [.int .i64 0], 0, [], 13, []⟩ := by kernel_rfl
theorem tyA_128 : tyA Tryz.prog 128 = some ⟨false, 1, 4, [.int .u32 0], 0, [], 16, []⟩ := by kernel_rfl
theorem tyA_130 : tyA Tryz.prog 130 = some ⟨false, 1, 24, [.slice none 0 0], 2, [], 1, []⟩ := by kernel_rfl
theorem tyA_132 : tyA Tryz.prog 132 = some ⟨false, 1, 24, [.slice none 0 0], 28, [], 1, []⟩ := by kernel_rfl
theorem tyA_137 : tyA Tryz.prog 137 = some ⟨false, 1, 8, [.int .u64 0], 0, [], 17, []⟩ := by kernel_rfl
theorem tyA_141 : tyA Tryz.prog 141 = some ⟨false, 1, 8, [.pointer none], 3, [], 7, []⟩ := by kernel_rfl
theorem tyA_146 : tyA Tryz.prog 146 = some ⟨false, 1, 8, [.pointer none], 137, [], 7, []⟩ := by kernel_rfl
theorem tyA_149 : tyA Tryz.prog 149 = some ⟨true, 4, 40, [.pointer none, .pointer none, .pointer none, .string ⟨#[]⟩], 0, [(0, 17), (1, 17), (2, 17), (3, 9)], 3, [(0, 1), (1, 1), (2, 1), (3, 1)]⟩ := by kernel_rfl
theorem tyA_150 : tyA Tryz.prog 150 = some ⟨true, 4, 40, [.pointer none, .pointer none, .pointer none, .string ⟨#[]⟩], 0, [(0, 17), (1, 17), (2, 17), (3, 9)], 3, [(0, 1), (1, 1), (2, 1), (3, 1)]⟩ := by kernel_rfl
theorem tyA_151 : tyA Tryz.prog 151 = some ⟨true, 0, 0, [], 16, [(0, 16)], 6, []⟩ := by kernel_rfl
theorem tyA_152 : tyA Tryz.prog 152 = some ⟨true, 0, 0, [], 0, [(0, 151)], 3, [(0, 0)]⟩ := by kernel_rfl
theorem tyA_153 : tyA Tryz.prog 153 = some ⟨true, 0, 0, [], 0, [(0, 151)], 3, [(0, 0)]⟩ := by kernel_rfl
theorem tyA_154 : tyA Tryz.prog 154 = some ⟨false, 1, 1, [.int .u8 0], 0, [], 14, []⟩ := by kernel_rfl
theorem tyA_155 : tyA Tryz.prog 155 = some ⟨false, 1, 1, [.int .u8 0], 0, [], 14, []⟩ := by kernel_rfl
theorem tyA_157 : tyA Tryz.prog 157 = some ⟨false, 1, 4, [.int .i32 0], 0, [], 12, []⟩ := by kernel_rfl
theorem tyA_158 : tyA Tryz.prog 158 = some ⟨false, 1, 4, [.int .i32 0], 0, [], 12, []⟩ := by kernel_rfl
theorem ent_2 : Enters Tryz.prog 2 := enters_of Tryz.func2 (by kernel_rfl) (by kernel_rfl)
theorem ent_3 : Enters Tryz.prog 3 := enters_of Tryz.func3 (by kernel_rfl) (by kernel_rfl)
theorem ent_4 : Enters Tryz.prog 4 := enters_of Tryz.func4 (by kernel_rfl) (by kernel_rfl)
theorem ent_5 : Enters Tryz.prog 5 := enters_of Tryz.func5 (by kernel_rfl) (by kernel_rfl)
theorem ent_6 : Enters Tryz.prog 6 := enters_of Tryz.func6 (by kernel_rfl) (by kernel_rfl)
theorem ent_7 : Enters Tryz.prog 7 := enters_of Tryz.func7 (by kernel_rfl) (by kernel_rfl)
theorem ent_8 : Enters Tryz.prog 8 := enters_of Tryz.func8 (by kernel_rfl) (by kernel_rfl)
theorem ent_9 : Enters Tryz.prog 9 := enters_of Tryz.func9 (by kernel_rfl) (by kernel_rfl)
theorem ent_10 : Enters Tryz.prog 10 := enters_of Tryz.func10 (by kernel_rfl) (by kernel_rfl)
theorem ent_11 : Enters Tryz.prog 11 := enters_of Tryz.func11 (by kernel_rfl) (by kernel_rfl)
theorem ent_12 : Enters Tryz.prog 12 := enters_of Tryz.func12 (by kernel_rfl) (by kernel_rfl)
theorem ent_13 : Enters Tryz.prog 13 := enters_of Tryz.func13 (by kernel_rfl) (by kernel_rfl)
theorem ent_14 : Enters Tryz.prog 14 := enters_of Tryz.func14 (by kernel_rfl) (by kernel_rfl)
theorem ent_15 : Enters Tryz.prog 15 := enters_of Tryz.func15 (by kernel_rfl) (by kernel_rfl)
theorem ent_16 : Enters Tryz.prog 16 := enters_of Tryz.func16 (by kernel_rfl) (by kernel_rfl)
theorem ent_17 : Enters Tryz.prog 17 := enters_of Tryz.func17 (by kernel_rfl) (by kernel_rfl)
theorem ent_18 : Enters Tryz.prog 18 := enters_of Tryz.func18 (by kernel_rfl) (by kernel_rfl)
theorem ent_19 : Enters Tryz.prog 19 := enters_of Tryz.func19 (by kernel_rfl) (by kernel_rfl)
theorem ent_20 : Enters Tryz.prog 20 := enters_of Tryz.func20 (by kernel_rfl) (by kernel_rfl)
theorem ent_21 : Enters Tryz.prog 21 := enters_of Tryz.func21 (by kernel_rfl) (by kernel_rfl)
theorem ent_22 : Enters Tryz.prog 22 := enters_of Tryz.func22 (by kernel_rfl) (by kernel_rfl)
theorem ent_23 : Enters Tryz.prog 23 := enters_of Tryz.func23 (by kernel_rfl) (by kernel_rfl)
theorem ent_24 : Enters Tryz.prog 24 := enters_of Tryz.func24 (by kernel_rfl) (by kernel_rfl)
theorem ent_25 : Enters Tryz.prog 25 := enters_of Tryz.func25 (by kernel_rfl) (by kernel_rfl)
theorem ent_26 : Enters Tryz.prog 26 := enters_of Tryz.func26 (by kernel_rfl) (by kernel_rfl)
theorem ent_27 : Enters Tryz.prog 27 := enters_of Tryz.func27 (by kernel_rfl) (by kernel_rfl)
theorem ent_28 : Enters Tryz.prog 28 := enters_of Tryz.func28 (by kernel_rfl) (by kernel_rfl)
theorem ent_29 : Enters Tryz.prog 29 := enters_of Tryz.func29 (by kernel_rfl) (by kernel_rfl)
theorem ent_30 : Enters Tryz.prog 30 := enters_of Tryz.func30 (by kernel_rfl) (by kernel_rfl)
theorem ent_31 : Enters Tryz.prog 31 := enters_of Tryz.func31 (by kernel_rfl) (by kernel_rfl)
theorem ent_32 : Enters Tryz.prog 32 := enters_of Tryz.func32 (by kernel_rfl) (by kernel_rfl)
theorem ent_33 : Enters Tryz.prog 33 := enters_of Tryz.func33 (by kernel_rfl) (by kernel_rfl)
theorem ent_34 : Enters Tryz.prog 34 := enters_of Tryz.func34 (by kernel_rfl) (by kernel_rfl)
theorem ent_35 : Enters Tryz.prog 35 := enters_of Tryz.func35 (by kernel_rfl) (by kernel_rfl)
theorem ent_36 : Enters Tryz.prog 36 := enters_of Tryz.func36 (by kernel_rfl) (by kernel_rfl)
theorem ent_37 : Enters Tryz.prog 37 := enters_of Tryz.func37 (by kernel_rfl) (by kernel_rfl)
theorem ent_38 : Enters Tryz.prog 38 := enters_of Tryz.func38 (by kernel_rfl) (by kernel_rfl)
theorem ent_39 : Enters Tryz.prog 39 := enters_of Tryz.func39 (by kernel_rfl) (by kernel_rfl)
theorem ent_40 : Enters Tryz.prog 40 := enters_of Tryz.func40 (by kernel_rfl) (by kernel_rfl)
theorem ent_41 : Enters Tryz.prog 41 := enters_of Tryz.func41 (by kernel_rfl) (by kernel_rfl)
theorem ent_42 : Enters Tryz.prog 42 := enters_of Tryz.func42 (by kernel_rfl) (by kernel_rfl)
theorem ent_43 : Enters Tryz.prog 43 := enters_of Tryz.func43 (by kernel_rfl) (by kernel_rfl)
theorem ent_44 : Enters Tryz.prog 44 := enters_of Tryz.func44 (by kernel_rfl) (by kernel_rfl)
theorem ent_45 : Enters Tryz.prog 45 := enters_of Tryz.func45 (by kernel_rfl) (by kernel_rfl)
theorem ent_46 : Enters Tryz.prog 46 := enters_of Tryz.func46 (by kernel_rfl) (by kernel_rfl)
theorem ent_47 : Enters Tryz.prog 47 := enters_of Tryz.func47 (by kernel_rfl) (by kernel_rfl)
theorem ent_48 : Enters Tryz.prog 48 := enters_of Tryz.func48 (by kernel_rfl) (by kernel_rfl)
theorem ent_49 : Enters Tryz.prog 49 := enters_of Tryz.func49 (by kernel_rfl) (by kernel_rfl)
theorem ent_50 : Enters Tryz.prog 50 := enters_of Tryz.func50 (by kernel_rfl) (by kernel_rfl)
theorem ent_51 : Enters Tryz.prog 51 := enters_of Tryz.func51 (by kernel_rfl) (by kernel_rfl)
theorem ent_52 : Enters Tryz.prog 52 := enters_of Tryz.func52 (by kernel_rfl) (by kernel_rfl)
theorem ent_53 : Enters Tryz.prog 53 := enters_of Tryz.func53 (by kernel_rfl) (by kernel_rfl)
theorem ent_54 : Enters Tryz.prog 54 := enters_of Tryz.func54 (by kernel_rfl) (by kernel_rfl)
theorem ent_55 : Enters Tryz.prog 55 := enters_of Tryz.func55 (by kernel_rfl) (by kernel_rfl)
theorem ent_56 : Enters Tryz.prog 56 := enters_of Tryz.func56 (by kernel_rfl) (by kernel_rfl)
theorem ent_57 : Enters Tryz.prog 57 := enters_of Tryz.func57 (by kernel_rfl) (by kernel_rfl)
theorem ent_58 : Enters Tryz.prog 58 := enters_of Tryz.func58 (by kernel_rfl) (by kernel_rfl)
theorem ent_59 : Enters Tryz.prog 59 := enters_of Tryz.func59 (by kernel_rfl) (by kernel_rfl)
theorem ent_60 : Enters Tryz.prog 60 := enters_of Tryz.func60 (by kernel_rfl) (by kernel_rfl)
theorem ent_61 : Enters Tryz.prog 61 := enters_of Tryz.func61 (by kernel_rfl) (by kernel_rfl)
theorem ent_62 : Enters Tryz.prog 62 := enters_of Tryz.func62 (by kernel_rfl) (by kernel_rfl)
theorem ent_63 : Enters Tryz.prog 63 := enters_of Tryz.func63 (by kernel_rfl) (by kernel_rfl)
theorem ent_64 : Enters Tryz.prog 64 := enters_of Tryz.func64 (by kernel_rfl) (by kernel_rfl)
theorem ent_65 : Enters Tryz.prog 65 := enters_of Tryz.func65 (by kernel_rfl) (by kernel_rfl)
theorem ent_66 : Enters Tryz.prog 66 := enters_of Tryz.func66 (by kernel_rfl) (by kernel_rfl)
theorem ent_67 : Enters Tryz.prog 67 := enters_of Tryz.func67 (by kernel_rfl) (by kernel_rfl)
theorem ent_68 : Enters Tryz.prog 68 := enters_of Tryz.func68 (by kernel_rfl) (by kernel_rfl)
theorem ent_71 : Enters Tryz.prog 71 := enters_of Tryz.func71 (by kernel_rfl) (by kernel_rfl)
theorem ent_72 : Enters Tryz.prog 72 := enters_of Tryz.func72 (by kernel_rfl) (by kernel_rfl)
theorem ent_73 : Enters Tryz.prog 73 := enters_of Tryz.func73 (by kernel_rfl) (by kernel_rfl)
theorem ent_74 : Enters Tryz.prog 74 := enters_of Tryz.func74 (by kernel_rfl) (by kernel_rfl)
theorem ent_75 : Enters Tryz.prog 75 := enters_of Tryz.func75 (by kernel_rfl) (by kernel_rfl)
theorem ent_76 : Enters Tryz.prog 76 := enters_of Tryz.func76 (by kernel_rfl) (by kernel_rfl)
theorem ent_77 : Enters Tryz.prog 77 := enters_of Tryz.func77 (by kernel_rfl) (by kernel_rfl)
theorem ent_78 : Enters Tryz.prog 78 := enters_of Tryz.func78 (by kernel_rfl) (by kernel_rfl)
theorem ent_79 : Enters Tryz.prog 79 := enters_of Tryz.func79 (by kernel_rfl) (by kernel_rfl)
theorem ent_80 : Enters Tryz.prog 80 := enters_of Tryz.func80 (by kernel_rfl) (by kernel_rfl)
theorem ent_81 : Enters Tryz.prog 81 := enters_of Tryz.func81 (by kernel_rfl) (by kernel_rfl)
theorem ent_82 : Enters Tryz.prog 82 := enters_of Tryz.func82 (by kernel_rfl) (by kernel_rfl)
theorem ent_83 : Enters Tryz.prog 83 := enters_of Tryz.func83 (by kernel_rfl) (by kernel_rfl)
theorem ent_84 : Enters Tryz.prog 84 := enters_of Tryz.func84 (by kernel_rfl) (by kernel_rfl)
theorem ent_85 : Enters Tryz.prog 85 := enters_of Tryz.func85 (by kernel_rfl) (by kernel_rfl)
theorem ent_86 : Enters Tryz.prog 86 := enters_of Tryz.func86 (by kernel_rfl) (by kernel_rfl)
theorem ent_87 : Enters Tryz.prog 87 := enters_of Tryz.func87 (by kernel_rfl) (by kernel_rfl)
theorem ent_88 : Enters Tryz.prog 88 := enters_of Tryz.func88 (by kernel_rfl) (by kernel_rfl)
theorem ent_89 : Enters Tryz.prog 89 := enters_of Tryz.func89 (by kernel_rfl) (by kernel_rfl)
theorem ent_90 : Enters Tryz.prog 90 := enters_of Tryz.func90 (by kernel_rfl) (by kernel_rfl)
theorem ent_91 : Enters Tryz.prog 91 := enters_of Tryz.func91 (by kernel_rfl) (by kernel_rfl)
theorem ent_92 : Enters Tryz.prog 92 := enters_of Tryz.func92 (by kernel_rfl) (by kernel_rfl)
theorem ent_93 : Enters Tryz.prog 93 := enters_of Tryz.func93 (by kernel_rfl) (by kernel_rfl)
theorem ent_94 : Enters Tryz.prog 94 := enters_of Tryz.func94 (by kernel_rfl) (by kernel_rfl)
theorem ent_95 : Enters Tryz.prog 95 := enters_of Tryz.func95 (by kernel_rfl) (by kernel_rfl)
theorem ent_96 : Enters Tryz.prog 96 := enters_of Tryz.func96 (by kernel_rfl) (by kernel_rfl)
theorem ent_97 : Enters Tryz.prog 97 := enters_of Tryz.func97 (by kernel_rfl) (by kernel_rfl)
theorem ent_98 : Enters Tryz.prog 98 := enters_of Tryz.func98 (by kernel_rfl) (by kernel_rfl)
theorem ent_99 : Enters Tryz.prog 99 := enters_of Tryz.func99 (by kernel_rfl) (by kernel_rfl)
theorem ent_100 : Enters Tryz.prog 100 := enters_of Tryz.func100 (by kernel_rfl) (by kernel_rfl)
theorem ent_101 : Enters Tryz.prog 101 := enters_of Tryz.func101 (by kernel_rfl) (by kernel_rfl)
theorem ent_102 : Enters Tryz.prog 102 := enters_of Tryz.func102 (by kernel_rfl) (by kernel_rfl)
theorem ent_103 : Enters Tryz.prog 103 := enters_of Tryz.func103 (by kernel_rfl) (by kernel_rfl)
theorem ent_104 : Enters Tryz.prog 104 := enters_of Tryz.func104 (by kernel_rfl) (by kernel_rfl)
theorem ent_105 : Enters Tryz.prog 105 := enters_of Tryz.func105 (by kernel_rfl) (by kernel_rfl)
theorem ent_106 : Enters Tryz.prog 106 := enters_of Tryz.func106 (by kernel_rfl) (by kernel_rfl)
theorem ent_107 : Enters Tryz.prog 107 := enters_of Tryz.func107 (by kernel_rfl) (by kernel_rfl)
theorem mixP : Tryz.prog.follows .mixedOrders = true := by kernel_rfl

end Go.Proofs.YticfioblapjkmaaGreat
