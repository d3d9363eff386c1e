/- The types as a table, and which functions can be entered (written by gen_ty.py out of the translation). -/
import Derived.Test.YtmmffaelkoinlaaDoorProg
import Derived.Test.YtmmffaelkoinlaaDoorAbB
namespace Go.Proofs.YtmmffaelkoinlaaDoor
open Go.RowKit
set_option linter.unusedVariables false

theorem tyA_2 : tyA Tryd.prog 2 = some ⟨false, 1, 8, [.int .i64 0], 0, [], 13, []⟩ := by kernel_rfl
theorem tyA_3 : tyA Tryd.prog 3 = some ⟨false, 1, 8, [.int .i64 0], 0, [], 13, []⟩ := by kernel_rfl
theorem tyA_4 : tyA Tryd.prog 4 = some ⟨false, 1, 1, [.bool false], 0, [], 4, []⟩ := by kernel_rfl
theorem tyA_5 : tyA Tryd.prog 5 = some ⟨false, 1, 1, [.int .u8 0], 0, [], 14, []⟩ := by kernel_rfl
theorem tyA_6 : tyA Tryd.prog 6 = some ⟨false, 1, 1, [.int .u8 0], 0, [], 14, []⟩ := by kernel_rfl
theorem tyA_7 : tyA Tryd.prog 7 = some ⟨true, 4, 24, [.int .i64 0, .int .i64 0, .bool false, .int .u8 0], 0, [(0, 2), (1, 3), (2, 4), (3, 6)], 3, [(0, 1), (1, 1), (2, 1), (3, 1)]⟩ := by kernel_rfl
theorem tyA_8 : tyA Tryd.prog 8 = some ⟨true, 4, 24, [.int .i64 0, .int .i64 0, .bool false, .int .u8 0], 0, [(0, 2), (1, 3), (2, 4), (3, 6)], 3, [(0, 1), (1, 1), (2, 1), (3, 1)]⟩ := by kernel_rfl
theorem tyA_9 : tyA Tryd.prog 9 = some ⟨false, 1, 16, [.string ⟨#[]⟩], 0, [], 2, []⟩ := by kernel_rfl
theorem tyA_10 : tyA Tryd.prog 10 = some ⟨false, 1, 16, [.string ⟨#[]⟩], 0, [], 2, []⟩ := by kernel_rfl
theorem tyA_11 : tyA Tryd.prog 11 = some ⟨false, 1, 16, [.string ⟨#[]⟩], 0, [], 2, []⟩ := by kernel_rfl
theorem tyA_12 : tyA Tryd.prog 12 = some ⟨false, 1, 8, [.int .u64 0], 0, [], 17, []⟩ := by kernel_rfl
theorem tyA_13 : tyA Tryd.prog 13 = some ⟨true, 2, 24, [.string ⟨#[]⟩, .int .u64 0], 0, [(0, 9), (1, 12)], 3, [(0, 1), (1, 1)]⟩ := by kernel_rfl
theorem tyA_14 : tyA Tryd.prog 14 = some ⟨true, 2, 24, [.string ⟨#[]⟩, .int .u64 0], 0, [(0, 9), (1, 12)], 3, [(0, 1), (1, 1)]⟩ := by kernel_rfl
theorem tyA_15 : tyA Tryd.prog 15 = some ⟨false, 1, 8, [.pointer none], 135, [], 7, []⟩ := by kernel_rfl
theorem tyA_16 : tyA Tryd.prog 16 = some ⟨false, 1, 8, [.pointer none], 138, [], 7, []⟩ := by kernel_rfl
theorem tyA_17 : tyA Tryd.prog 17 = some ⟨false, 1, 8, [.pointer none], 147, [], 7, []⟩ := by kernel_rfl
theorem tyA_18 : tyA Tryd.prog 18 = some ⟨true, 1, 8, [.pointer none], 0, [(0, 17)], 3, [(0, 1)]⟩ := by kernel_rfl
theorem tyA_19 : tyA Tryd.prog 19 = some ⟨true, 1, 8, [.pointer none], 0, [(0, 17)], 3, [(0, 1)]⟩ := by kernel_rfl
theorem tyA_21 : tyA Tryd.prog 21 = some ⟨false, 1, 4, [.int .i32 0], 0, [], 12, []⟩ := by kernel_rfl
theorem tyA_22 : tyA Tryd.prog 22 = some ⟨false, 1, 24, [.slice none 0 0], 32, [], 1, []⟩ := by kernel_rfl
theorem tyA_23 : tyA Tryd.prog 23 = some ⟨true, 2, 32, [.slice none 0 0, .int .i64 0], 0, [(0, 22), (1, 3)], 3, [(0, 1), (1, 1)]⟩ := by kernel_rfl
theorem tyA_24 : tyA Tryd.prog 24 = some ⟨true, 2, 32, [.slice none 0 0, .int .i64 0], 0, [(0, 22), (1, 3)], 3, [(0, 1), (1, 1)]⟩ := by kernel_rfl
theorem tyA_27 : tyA Tryd.prog 27 = some ⟨false, 1, 24, [.slice none 0 0], 4, [], 1, []⟩ := by kernel_rfl
theorem tyA_28 : tyA Tryd.prog 28 = some ⟨false, 1, 24, [.slice none 0 0], 9, [], 1, []⟩ := by kernel_rfl
theorem tyA_29 : tyA Tryd.prog 29 = some ⟨false, 1, 24, [.slice none 0 0], 40, [], 1, []⟩ := by kernel_rfl
theorem tyA_30 : tyA Tryd.prog 30 = some ⟨false, 1, 24, [.slice none 0 0], 3, [], 1, []⟩ := by kernel_rfl
theorem tyA_31 : tyA Tryd.prog 31 = some ⟨true, 10, 160, [.int .i64 0, .string ⟨#[]⟩, .slice none 0 0, .slice none 0 0, .slice none 0 0, .bool false, .string ⟨#[]⟩, .int .i64 0, .int .i64 0, .slice none 0 0], 0, [(0, 3), (1, 9), (2, 28), (3, 29), (4, 28), (5, 4), (6, 9), (7, 3), (8, 3), (9, 30)], 3, [(0, 1), (1, 1), (2, 1), (3, 1), (4, 1), (5, 1), (6, 1), (7, 1), (8, 1), (9, 1)]⟩ := by kernel_rfl
theorem tyA_32 : tyA Tryd.prog 32 = some ⟨true, 10, 160, [.int .i64 0, .string ⟨#[]⟩, .slice none 0 0, .slice none 0 0, .slice none 0 0, .bool false, .string ⟨#[]⟩, .int .i64 0, .int .i64 0, .slice none 0 0], 0, [(0, 3), (1, 9), (2, 28), (3, 29), (4, 28), (5, 4), (6, 9), (7, 3), (8, 3), (9, 30)], 3, [(0, 1), (1, 1), (2, 1), (3, 1), (4, 1), (5, 1), (6, 1), (7, 1), (8, 1), (9, 1)]⟩ := by kernel_rfl
theorem tyA_36 : tyA Tryd.prog 36 = some ⟨false, 1, 24, [.slice none 0 0], 38, [], 1, []⟩ := by kernel_rfl
theorem tyA_37 : tyA Tryd.prog 37 = some ⟨true, 5, 80, [.int .i64 0, .int .i64 0, .string ⟨#[]⟩, .slice none 0 0, .slice none 0 0], 0, [(0, 3), (1, 2), (2, 9), (3, 36), (4, 28)], 3, [(0, 1), (1, 1), (2, 1), (3, 1), (4, 1)]⟩ := by kernel_rfl
theorem tyA_38 : tyA Tryd.prog 38 = some ⟨true, 5, 80, [.int .i64 0, .int .i64 0, .string ⟨#[]⟩, .slice none 0 0, .slice none 0 0], 0, [(0, 3), (1, 2), (2, 9), (3, 36), (4, 28)], 3, [(0, 1), (1, 1), (2, 1), (3, 1), (4, 1)]⟩ := by kernel_rfl
theorem tyA_39 : tyA Tryd.prog 39 = some ⟨true, 9, 136, [.string ⟨#[]⟩, .slice none 0 0, .int .i64 0, .bool false, .int .i64 0, .int .i64 0, .string ⟨#[]⟩, .slice none 0 0, .slice none 0 0], 0, [(0, 9), (1, 28), (2, 3), (3, 4), (4, 38)], 3, [(0, 1), (1, 1), (2, 1), (3, 1), (4, 5)]⟩ := by kernel_rfl
theorem tyA_40 : tyA Tryd.prog 40 = some ⟨true, 9, 136, [.string ⟨#[]⟩, .slice none 0 0, .int .i64 0, .bool false, .int .i64 0, .int .i64 0, .string ⟨#[]⟩, .slice none 0 0, .slice none 0 0], 0, [(0, 9), (1, 28), (2, 3), (3, 4), (4, 38)], 3, [(0, 1), (1, 1), (2, 1), (3, 1), (4, 5)]⟩ := by kernel_rfl
theorem tyA_58 : tyA Tryd.prog 58 = some ⟨false, 1, 8, [.pointer none], 32, [], 7, []⟩ := by kernel_rfl
theorem tyA_62 : tyA Tryd.prog 62 = some ⟨false, 1, 8, [.pointer none], 40, [], 7, []⟩ := by kernel_rfl
theorem tyA_66 : tyA Tryd.prog 66 = some ⟨false, 1, 8, [.pointer none], 68, [], 7, []⟩ := by kernel_rfl
theorem tyA_67 : tyA Tryd.prog 67 = some ⟨true, 3, 40, [.slice none 0 0, .int .i64 0, .int .i64 0], 0, [(0, 24), (2, 3)], 3, [(0, 2), (2, 1)]⟩ := by kernel_rfl
theorem tyA_68 : tyA Tryd.prog 68 = some ⟨true, 3, 40, [.slice none 0 0, .int .i64 0, .int .i64 0], 0, [(0, 24), (2, 3)], 3, [(0, 2), (2, 1)]⟩ := by kernel_rfl
theorem tyA_77 : tyA Tryd.prog 77 = some ⟨true, 15, 240, [.string ⟨#[]⟩, .string ⟨#[]⟩, .string ⟨#[]⟩, .string ⟨#[]⟩, .string ⟨#[]⟩, .string ⟨#[]⟩, .string ⟨#[]⟩, .string ⟨#[]⟩, .string ⟨#[]⟩, .string ⟨#[]⟩, .string ⟨#[]⟩, .string ⟨#[]⟩, .string ⟨#[]⟩, .string ⟨#[]⟩, .string ⟨#[]⟩], 9, [(15, 9)], 6, []⟩ := by kernel_rfl
theorem tyA_89 : tyA Tryd.prog 89 = some ⟨false, 1, 8, [.int .u64 0], 0, [], 17, []⟩ := by kernel_rfl
theorem tyA_91 : tyA Tryd.prog 91 = some ⟨false, 1, 24, [.slice none 0 0], 5, [], 1, []⟩ := by kernel_rfl
theorem tyA_97 : tyA Tryd.prog 97 = some ⟨false, 1, 4, [.int .u32 0], 0, [], 16, []⟩ := by kernel_rfl
theorem tyA_100 : tyA Tryd.prog 100 = some ⟨false, 1, 8, [.int .i64 0], 0, [], 13, []⟩ := by kernel_rfl
theorem tyA_113 : tyA Tryd.prog 113 = some ⟨false, 1, 8, [.int .i64 0], 0, [], 13, []⟩ := by kernel_rfl
theorem tyA_123 : tyA Tryd.prog 123 = some ⟨false, 1, 8, [.int .u64 0], 0, [], 17, []⟩ := by kernel_rfl
theorem tyA_124 : tyA Tryd.prog 124 = some ⟨false, 1, 8, [.int .u64 0], 0, [], 17, []⟩ := by kernel_rfl
theorem tyA_128 : tyA Tryd.prog 128 = some ⟨false, 1, 8, [.pointer none], 3, [], 7, []⟩ := by kernel_rfl
theorem tyA_130 : tyA Tryd.prog 130 = some ⟨false, 1, 8, [.pointer none], 124, [], 7, []⟩ := by kernel_rfl
theorem tyA_134 : tyA Tryd.prog 134 = some ⟨true, 4, 40, [.pointer none, .pointer none, .pointer none, .string ⟨#[]⟩], 0, [(0, 17), (1, 17), (2, 17), (3, 9)], 3, [(0, 1), (1, 1), (2, 1), (3, 1)]⟩ := by kernel_rfl
theorem tyA_135 : tyA Tryd.prog 135 = some ⟨true, 4, 40, [.pointer none, .pointer none, .pointer none, .string ⟨#[]⟩], 0, [(0, 17), (1, 17), (2, 17), (3, 9)], 3, [(0, 1), (1, 1), (2, 1), (3, 1)]⟩ := by kernel_rfl
theorem tyA_136 : tyA Tryd.prog 136 = some ⟨true, 0, 0, [], 16, [(0, 16)], 6, []⟩ := by kernel_rfl
theorem tyA_137 : tyA Tryd.prog 137 = some ⟨true, 0, 0, [], 0, [(0, 136)], 3, [(0, 0)]⟩ := by kernel_rfl
theorem tyA_138 : tyA Tryd.prog 138 = some ⟨true, 0, 0, [], 0, [(0, 136)], 3, [(0, 0)]⟩ := by kernel_rfl
theorem tyA_140 : tyA Tryd.prog 140 = some ⟨false, 1, 1, [.int .u8 0], 0, [], 14, []⟩ := by kernel_rfl
theorem tyA_141 : tyA Tryd.prog 141 = some ⟨false, 1, 1, [.int .u8 0], 0, [], 14, []⟩ := by kernel_rfl
theorem tyA_143 : tyA Tryd.prog 143 = some ⟨false, 1, 8, [.pointer none], 5, [], 7, []⟩ := by kernel_rfl
theorem tyA_144 : tyA Tryd.prog 144 = some ⟨false, 1, 4, [.int .i32 0], 0, [], 12, []⟩ := by kernel_rfl
theorem tyA_145 : tyA Tryd.prog 145 = some ⟨false, 1, 4, [.int .i32 0], 0, [], 12, []⟩ := by kernel_rfl
theorem tyA_148 : tyA Tryd.prog 148 = some ⟨false, 1, 8, [.pointer none], 0, [], 8, []⟩ := by kernel_rfl
theorem ent_2 : Enters Tryd.prog 2 := enters_of Tryd.func2 (by kernel_rfl) (by kernel_rfl)
theorem ent_3 : Enters Tryd.prog 3 := enters_of Tryd.func3 (by kernel_rfl) (by kernel_rfl)
theorem ent_4 : Enters Tryd.prog 4 := enters_of Tryd.func4 (by kernel_rfl) (by kernel_rfl)
theorem ent_5 : Enters Tryd.prog 5 := enters_of Tryd.func5 (by kernel_rfl) (by kernel_rfl)
theorem ent_6 : Enters Tryd.prog 6 := enters_of Tryd.func6 (by kernel_rfl) (by kernel_rfl)
theorem ent_7 : Enters Tryd.prog 7 := enters_of Tryd.func7 (by kernel_rfl) (by kernel_rfl)
theorem ent_8 : Enters Tryd.prog 8 := enters_of Tryd.func8 (by kernel_rfl) (by kernel_rfl)
theorem ent_9 : Enters Tryd.prog 9 := enters_of Tryd.func9 (by kernel_rfl) (by kernel_rfl)
theorem ent_10 : Enters Tryd.prog 10 := enters_of Tryd.func10 (by kernel_rfl) (by kernel_rfl)
theorem ent_11 : Enters Tryd.prog 11 := enters_of Tryd.func11 (by kernel_rfl) (by kernel_rfl)
theorem ent_12 : Enters Tryd.prog 12 := enters_of Tryd.func12 (by kernel_rfl) (by kernel_rfl)
theorem ent_13 : Enters Tryd.prog 13 := enters_of Tryd.func13 (by kernel_rfl) (by kernel_rfl)
theorem ent_14 : Enters Tryd.prog 14 := enters_of Tryd.func14 (by kernel_rfl) (by kernel_rfl)
theorem ent_15 : Enters Tryd.prog 15 := enters_of Tryd.func15 (by kernel_rfl) (by kernel_rfl)
theorem ent_16 : Enters Tryd.prog 16 := enters_of Tryd.func16 (by kernel_rfl) (by kernel_rfl)
theorem ent_17 : Enters Tryd.prog 17 := enters_of Tryd.func17 (by kernel_rfl) (by kernel_rfl)
theorem ent_18 : Enters Tryd.prog 18 := enters_of Tryd.func18 (by kernel_rfl) (by kernel_rfl)
theorem ent_19 : Enters Tryd.prog 19 := enters_of Tryd.func19 (by kernel_rfl) (by kernel_rfl)
theorem ent_20 : Enters Tryd.prog 20 := enters_of Tryd.func20 (by kernel_rfl) (by kernel_rfl)
theorem ent_21 : Enters Tryd.prog 21 := enters_of Tryd.func21 (by kernel_rfl) (by kernel_rfl)
theorem ent_22 : Enters Tryd.prog 22 := enters_of Tryd.func22 (by kernel_rfl) (by kernel_rfl)
theorem ent_23 : Enters Tryd.prog 23 := enters_of Tryd.func23 (by kernel_rfl) (by kernel_rfl)
theorem ent_24 : Enters Tryd.prog 24 := enters_of Tryd.func24 (by kernel_rfl) (by kernel_rfl)
theorem ent_25 : Enters Tryd.prog 25 := enters_of Tryd.func25 (by kernel_rfl) (by kernel_rfl)
theorem ent_26 : Enters Tryd.prog 26 := enters_of Tryd.func26 (by kernel_rfl) (by kernel_rfl)
theorem ent_27 : Enters Tryd.prog 27 := enters_of Tryd.func27 (by kernel_rfl) (by kernel_rfl)
theorem ent_28 : Enters Tryd.prog 28 := enters_of Tryd.func28 (by kernel_rfl) (by kernel_rfl)
theorem ent_29 : Enters Tryd.prog 29 := enters_of Tryd.func29 (by kernel_rfl) (by kernel_rfl)
theorem ent_30 : Enters Tryd.prog 30 := enters_of Tryd.func30 (by kernel_rfl) (by kernel_rfl)
theorem ent_31 : Enters Tryd.prog 31 := enters_of Tryd.func31 (by kernel_rfl) (by kernel_rfl)
theorem ent_32 : Enters Tryd.prog 32 := enters_of Tryd.func32 (by kernel_rfl) (by kernel_rfl)
theorem ent_33 : Enters Tryd.prog 33 := enters_of Tryd.func33 (by kernel_rfl) (by kernel_rfl)
theorem ent_34 : Enters Tryd.prog 34 := enters_of Tryd.func34 (by kernel_rfl) (by kernel_rfl)
theorem ent_35 : Enters Tryd.prog 35 := enters_of Tryd.func35 (by kernel_rfl) (by kernel_rfl)
theorem ent_36 : Enters Tryd.prog 36 := enters_of Tryd.func36 (by kernel_rfl) (by kernel_rfl)
theorem ent_37 : Enters Tryd.prog 37 := enters_of Tryd.func37 (by kernel_rfl) (by kernel_rfl)
theorem ent_38 : Enters Tryd.prog 38 := enters_of Tryd.func38 (by kernel_rfl) (by kernel_rfl)
theorem ent_39 : Enters Tryd.prog 39 := enters_of Tryd.func39 (by kernel_rfl) (by kernel_rfl)
theorem ent_40 : Enters Tryd.prog 40 := enters_of Tryd.func40 (by kernel_rfl) (by kernel_rfl)
theorem ent_41 : Enters Tryd.prog 41 := enters_of Tryd.func41 (by kernel_rfl) (by kernel_rfl)
theorem ent_42 : Enters Tryd.prog 42 := enters_of Tryd.func42 (by kernel_rfl) (by kernel_rfl)
theorem ent_43 : Enters Tryd.prog 43 := enters_of Tryd.func43 (by kernel_rfl) (by kernel_rfl)
theorem ent_44 : Enters Tryd.prog 44 := enters_of Tryd.func44 (by kernel_rfl) (by kernel_rfl)
theorem ent_45 : Enters Tryd.prog 45 := enters_of Tryd.func45 (by kernel_rfl) (by kernel_rfl)
theorem ent_46 : Enters Tryd.prog 46 := enters_of Tryd.func46 (by kernel_rfl) (by kernel_rfl)
theorem ent_47 : Enters Tryd.prog 47 := enters_of Tryd.func47 (by kernel_rfl) (by kernel_rfl)
theorem ent_48 : Enters Tryd.prog 48 := enters_of Tryd.func48 (by kernel_rfl) (by kernel_rfl)
theorem ent_49 : Enters Tryd.prog 49 := enters_of Tryd.func49 (by kernel_rfl) (by kernel_rfl)
theorem ent_50 : Enters Tryd.prog 50 := enters_of Tryd.func50 (by kernel_rfl) (by kernel_rfl)
theorem ent_51 : Enters Tryd.prog 51 := enters_of Tryd.func51 (by kernel_rfl) (by kernel_rfl)
theorem ent_52 : Enters Tryd.prog 52 := enters_of Tryd.func52 (by kernel_rfl) (by kernel_rfl)
theorem ent_53 : Enters Tryd.prog 53 := enters_of Tryd.func53 (by kernel_rfl) (by kernel_rfl)
theorem ent_54 : Enters Tryd.prog 54 := enters_of Tryd.func54 (by kernel_rfl) (by kernel_rfl)
theorem ent_55 : Enters Tryd.prog 55 := enters_of Tryd.func55 (by kernel_rfl) (by kernel_rfl)
theorem ent_56 : Enters Tryd.prog 56 := enters_of Tryd.func56 (by kernel_rfl) (by kernel_rfl)
theorem ent_57 : Enters Tryd.prog 57 := enters_of Tryd.func57 (by kernel_rfl) (by kernel_rfl)
theorem ent_58 : Enters Tryd.prog 58 := enters_of Tryd.func58 (by kernel_rfl) (by kernel_rfl)
theorem ent_59 : Enters Tryd.prog 59 := enters_of Tryd.func59 (by kernel_rfl) (by kernel_rfl)
theorem ent_60 : Enters Tryd.prog 60 := enters_of Tryd.func60 (by kernel_rfl) (by kernel_rfl)
theorem ent_61 : Enters Tryd.prog 61 := enters_of Tryd.func61 (by kernel_rfl) (by kernel_rfl)
theorem ent_62 : Enters Tryd.prog 62 := enters_of Tryd.func62 (by kernel_rfl) (by kernel_rfl)
theorem ent_64 : Enters Tryd.prog 64 := enters_of Tryd.func64 (by kernel_rfl) (by kernel_rfl)
theorem ent_65 : Enters Tryd.prog 65 := enters_of Tryd.func65 (by kernel_rfl) (by kernel_rfl)
theorem ent_66 : Enters Tryd.prog 66 := enters_of Tryd.func66 (by kernel_rfl) (by kernel_rfl)
theorem ent_67 : Enters Tryd.prog 67 := enters_of Tryd.func67 (by kernel_rfl) (by kernel_rfl)
theorem ent_68 : Enters Tryd.prog 68 := enters_of Tryd.func68 (by kernel_rfl) (by kernel_rfl)
theorem ent_69 : Enters Tryd.prog 69 := enters_of Tryd.func69 (by kernel_rfl) (by kernel_rfl)
theorem ent_70 : Enters Tryd.prog 70 := enters_of Tryd.func70 (by kernel_rfl) (by kernel_rfl)
theorem ent_71 : Enters Tryd.prog 71 := enters_of Tryd.func71 (by kernel_rfl) (by kernel_rfl)
theorem ent_73 : Enters Tryd.prog 73 := enters_of Tryd.func73 (by kernel_rfl) (by kernel_rfl)
theorem ent_74 : Enters Tryd.prog 74 := enters_of Tryd.func74 (by kernel_rfl) (by kernel_rfl)
theorem ent_75 : Enters Tryd.prog 75 := enters_of Tryd.func75 (by kernel_rfl) (by kernel_rfl)
theorem ent_76 : Enters Tryd.prog 76 := enters_of Tryd.func76 (by kernel_rfl) (by kernel_rfl)
theorem ent_77 : Enters Tryd.prog 77 := enters_of Tryd.func77 (by kernel_rfl) (by kernel_rfl)
theorem ent_78 : Enters Tryd.prog 78 := enters_of Tryd.func78 (by kernel_rfl) (by kernel_rfl)
theorem ent_79 : Enters Tryd.prog 79 := enters_of Tryd.func79 (by kernel_rfl) (by kernel_rfl)
theorem ent_80 : Enters Tryd.prog 80 := enters_of Tryd.func80 (by kernel_rfl) (by kernel_rfl)
theorem ent_81 : Enters Tryd.prog 81 := enters_of Tryd.func81 (by kernel_rfl) (by kernel_rfl)
theorem ent_82 : Enters Tryd.prog 82 := enters_of Tryd.func82 (by kernel_rfl) (by kernel_rfl)
theorem ent_83 : Enters Tryd.prog 83 := enters_of Tryd.func83 (by kernel_rfl) (by kernel_rfl)
theorem ent_84 : Enters Tryd.prog 84 := enters_of Tryd.func84 (by kernel_rfl) (by kernel_rfl)
theorem ent_85 : Enters Tryd.prog 85 := enters_of Tryd.func85 (by kernel_rfl) (by kernel_rfl)
theorem ent_86 : Enters Tryd.prog 86 := enters_of Tryd.func86 (by kernel_rfl) (by kernel_rfl)
theorem ent_87 : Enters Tryd.prog 87 := enters_of Tryd.func87 (by kernel_rfl) (by kernel_rfl)
theorem ent_88 : Enters Tryd.prog 88 := enters_of Tryd.func88 (by kernel_rfl) (by kernel_rfl)
theorem ent_89 : Enters Tryd.prog 89 := enters_of Tryd.func89 (by kernel_rfl) (by kernel_rfl)
theorem ent_90 : Enters Tryd.prog 90 := enters_of Tryd.func90 (by kernel_rfl) (by kernel_rfl)
theorem ent_91 : Enters Tryd.prog 91 := enters_of Tryd.func91 (by kernel_rfl) (by kernel_rfl)
theorem ent_92 : Enters Tryd.prog 92 := enters_of Tryd.func92 (by kernel_rfl) (by kernel_rfl)
theorem ent_93 : Enters Tryd.prog 93 := enters_of Tryd.func93 (by kernel_rfl) (by kernel_rfl)
theorem ent_94 : Enters Tryd.prog 94 := enters_of Tryd.func94 (by kernel_rfl) (by kernel_rfl)
theorem ent_95 : Enters Tryd.prog 95 := enters_of Tryd.func95 (by kernel_rfl) (by kernel_rfl)
theorem ent_96 : Enters Tryd.prog 96 := enters_of Tryd.func96 (by kernel_rfl) (by kernel_rfl)
theorem ent_97 : Enters Tryd.prog 97 := enters_of Tryd.func97 (by kernel_rfl) (by kernel_rfl)
theorem ent_98 : Enters Tryd.prog 98 := enters_of Tryd.func98 (by kernel_rfl) (by kernel_rfl)
theorem ent_99 : Enters Tryd.prog 99 := enters_of Tryd.func99 (by kernel_rfl) (by kernel_rfl)
theorem ent_100 : Enters Tryd.prog 100 := enters_of Tryd.func100 (by kernel_rfl) (by kernel_rfl)
theorem ent_101 : Enters Tryd.prog 101 := enters_of Tryd.func101 (by kernel_rfl) (by kernel_rfl)
theorem ent_122 : Enters Tryd.prog 122 := enters_of Tryd.func122 (by kernel_rfl) (by kernel_rfl)
theorem mixP : Tryd.prog.follows .mixedOrders = true := by kernel_rfl

end Go.Proofs.YtmmffaelkoinlaaDoor
