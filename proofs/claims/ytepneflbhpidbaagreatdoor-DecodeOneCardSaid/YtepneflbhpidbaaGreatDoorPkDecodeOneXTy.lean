/- The types as a table, and which functions can be entered (written by gen_ty.py out of the translation). -/
import Derived.Test.YtepneflbhpidbaaGreatDoorProg
import Derived.Test.YtepneflbhpidbaaGreatDoorPkDecodeOneXAbB
namespace Go.Proofs.YtepneflbhpidbaaGreatDoor
open Go.RowKit
set_option linter.unusedVariables false

theorem q7f : tyA Tryz.prog 2 = some ⟨false, 1, 8, [.int .i64 0], 0, [], 13, []⟩ := by kernel_rfl
theorem q4y : tyA Tryz.prog 3 = some ⟨false, 1, 8, [.int .i64 0], 0, [], 13, []⟩ := by kernel_rfl
theorem q6v : tyA Tryz.prog 4 = some ⟨false, 1, 1, [.bool false], 0, [], 4, []⟩ := by kernel_rfl
theorem q51 : tyA Tryz.prog 5 = some ⟨false, 1, 1, [.int .u8 0], 0, [], 14, []⟩ := by kernel_rfl
theorem j0h : tyA Tryz.prog 6 = some ⟨false, 1, 1, [.int .u8 0], 0, [], 14, []⟩ := by kernel_rfl
theorem j0i : tyA Tryz.prog 7 = some ⟨true, 4, 24, [.int .i64 0, .int .i64 0, .bool false, .int .u8 0], 0, [(0, 2), (1, 3), (2, 4), (3, 6)], 3, [(0, 1), (1, 1), (2, 1), (3, 1)]⟩ := by kernel_rfl
theorem j0l : tyA Tryz.prog 8 = some ⟨true, 4, 24, [.int .i64 0, .int .i64 0, .bool false, .int .u8 0], 0, [(0, 2), (1, 3), (2, 4), (3, 6)], 3, [(0, 1), (1, 1), (2, 1), (3, 1)]⟩ := by kernel_rfl
theorem q5l : tyA Tryz.prog 9 = some ⟨false, 1, 16, [.string ⟨#[]⟩], 0, [], 2, []⟩ := by kernel_rfl
theorem q8o : tyA Tryz.prog 10 = some ⟨false, 1, 16, [.string ⟨#[]⟩], 0, [], 2, []⟩ := by kernel_rfl
theorem q8w : tyA Tryz.prog 11 = some ⟨false, 1, 16, [.string ⟨#[]⟩], 0, [], 2, []⟩ := by kernel_rfl
theorem q8x : tyA Tryz.prog 12 = some ⟨false, 1, 8, [.int .u64 0], 0, [], 17, []⟩ := by kernel_rfl
theorem q8z : tyA Tryz.prog 13 = some ⟨true, 2, 24, [.string ⟨#[]⟩, .int .u64 0], 0, [(0, 9), (1, 12)], 3, [(0, 1), (1, 1)]⟩ := by kernel_rfl
theorem q83 : tyA Tryz.prog 14 = some ⟨true, 2, 24, [.string ⟨#[]⟩, .int .u64 0], 0, [(0, 9), (1, 12)], 3, [(0, 1), (1, 1)]⟩ := by kernel_rfl
theorem q9a : tyA Tryz.prog 15 = some ⟨false, 1, 8, [.pointer none], 291, [], 7, []⟩ := by kernel_rfl
theorem q9b : tyA Tryz.prog 16 = some ⟨false, 1, 8, [.pointer none], 294, [], 7, []⟩ := by kernel_rfl
theorem q9f : tyA Tryz.prog 17 = some ⟨false, 1, 8, [.pointer none], 301, [], 7, []⟩ := by kernel_rfl
theorem q9l : tyA Tryz.prog 18 = some ⟨true, 1, 8, [.pointer none], 0, [(0, 17)], 3, [(0, 1)]⟩ := by kernel_rfl
theorem q9n : tyA Tryz.prog 19 = some ⟨true, 1, 8, [.pointer none], 0, [(0, 17)], 3, [(0, 1)]⟩ := by kernel_rfl
theorem q9p : tyA Tryz.prog 21 = some ⟨false, 1, 4, [.int .i32 0], 0, [], 12, []⟩ := by kernel_rfl
theorem q7g : tyA Tryz.prog 22 = some ⟨false, 1, 24, [.slice none 0 0], 33, [], 1, []⟩ := by kernel_rfl
theorem q9q : tyA Tryz.prog 23 = some ⟨true, 2, 32, [.slice none 0 0, .int .i64 0], 0, [(0, 22), (1, 3)], 3, [(0, 1), (1, 1)]⟩ := by kernel_rfl
theorem q7h : tyA Tryz.prog 24 = some ⟨true, 2, 32, [.slice none 0 0, .int .i64 0], 0, [(0, 22), (1, 3)], 3, [(0, 1), (1, 1)]⟩ := by kernel_rfl
theorem q50 : tyA Tryz.prog 29 = some ⟨false, 1, 24, [.slice none 0 0], 9, [], 1, []⟩ := by kernel_rfl
theorem q7i : tyA Tryz.prog 30 = some ⟨false, 1, 24, [.slice none 0 0], 38, [], 1, []⟩ := by kernel_rfl
theorem q7j : tyA Tryz.prog 31 = some ⟨false, 1, 24, [.slice none 0 0], 3, [], 1, []⟩ := by kernel_rfl
theorem j0b : tyA Tryz.prog 32 = some ⟨true, 10, 160, [.int .i64 0, .string ⟨#[]⟩, .slice none 0 0, .slice none 0 0, .slice none 0 0, .bool false, .string ⟨#[]⟩, .int .i64 0, .int .i64 0, .slice none 0 0], 0, [(0, 3), (1, 9), (2, 29), (3, 30), (4, 29), (5, 4), (6, 9), (7, 3), (8, 3), (9, 31)], 3, [(0, 1), (1, 1), (2, 1), (3, 1), (4, 1), (5, 1), (6, 1), (7, 1), (8, 1), (9, 1)]⟩ := by kernel_rfl
theorem q6t : tyA Tryz.prog 33 = some ⟨true, 10, 160, [.int .i64 0, .string ⟨#[]⟩, .slice none 0 0, .slice none 0 0, .slice none 0 0, .bool false, .string ⟨#[]⟩, .int .i64 0, .int .i64 0, .slice none 0 0], 0, [(0, 3), (1, 9), (2, 29), (3, 30), (4, 29), (5, 4), (6, 9), (7, 3), (8, 3), (9, 31)], 3, [(0, 1), (1, 1), (2, 1), (3, 1), (4, 1), (5, 1), (6, 1), (7, 1), (8, 1), (9, 1)]⟩ := by kernel_rfl
theorem q7k : tyA Tryz.prog 34 = some ⟨false, 1, 24, [.slice none 0 0], 36, [], 1, []⟩ := by kernel_rfl
theorem j0c : tyA Tryz.prog 35 = some ⟨true, 5, 80, [.int .i64 0, .int .i64 0, .string ⟨#[]⟩, .slice none 0 0, .slice none 0 0], 0, [(0, 3), (1, 2), (2, 9), (3, 34), (4, 29)], 3, [(0, 1), (1, 1), (2, 1), (3, 1), (4, 1)]⟩ := by kernel_rfl
theorem q6e : tyA Tryz.prog 36 = some ⟨true, 5, 80, [.int .i64 0, .int .i64 0, .string ⟨#[]⟩, .slice none 0 0, .slice none 0 0], 0, [(0, 3), (1, 2), (2, 9), (3, 34), (4, 29)], 3, [(0, 1), (1, 1), (2, 1), (3, 1), (4, 1)]⟩ := by kernel_rfl
theorem j0d : tyA Tryz.prog 37 = some ⟨true, 9, 136, [.string ⟨#[]⟩, .slice none 0 0, .int .i64 0, .bool false, .int .i64 0, .int .i64 0, .string ⟨#[]⟩, .slice none 0 0, .slice none 0 0], 0, [(0, 9), (1, 29), (2, 3), (3, 4), (4, 36)], 3, [(0, 1), (1, 1), (2, 1), (3, 1), (4, 5)]⟩ := by kernel_rfl
theorem q6u : tyA Tryz.prog 38 = some ⟨true, 9, 136, [.string ⟨#[]⟩, .slice none 0 0, .int .i64 0, .bool false, .int .i64 0, .int .i64 0, .string ⟨#[]⟩, .slice none 0 0, .slice none 0 0], 0, [(0, 9), (1, 29), (2, 3), (3, 4), (4, 36)], 3, [(0, 1), (1, 1), (2, 1), (3, 1), (4, 5)]⟩ := by kernel_rfl
theorem j0e : tyA Tryz.prog 39 = some ⟨false, 1, 8, [.int .u64 0], 0, [], 17, []⟩ := by kernel_rfl
theorem q6f : tyA Tryz.prog 40 = some ⟨false, 1, 24, [.slice none 0 0], 5, [], 1, []⟩ := by kernel_rfl
theorem q7l : tyA Tryz.prog 41 = some ⟨false, 1, 24, [.slice none 0 0], 43, [], 1, []⟩ := by kernel_rfl
theorem j0f : tyA Tryz.prog 42 = some ⟨true, 6, 96, [.int .i64 0, .int .i64 0, .int .u64 0, .slice none 0 0, .slice none 0 0, .slice none 0 0], 0, [(0, 3), (1, 2), (2, 39), (3, 40), (4, 41), (5, 29)], 3, [(0, 1), (1, 1), (2, 1), (3, 1), (4, 1), (5, 1)]⟩ := by kernel_rfl
theorem q7m : tyA Tryz.prog 43 = some ⟨true, 6, 96, [.int .i64 0, .int .i64 0, .int .u64 0, .slice none 0 0, .slice none 0 0, .slice none 0 0], 0, [(0, 3), (1, 2), (2, 39), (3, 40), (4, 41), (5, 29)], 3, [(0, 1), (1, 1), (2, 1), (3, 1), (4, 1), (5, 1)]⟩ := by kernel_rfl
theorem j0g : tyA Tryz.prog 48 = some ⟨false, 1, 8, [.int .i64 0], 0, [], 13, []⟩ := by kernel_rfl
theorem j0j : tyA Tryz.prog 72 = some ⟨false, 1, 8, [.pointer none], 33, [], 7, []⟩ := by kernel_rfl
theorem j0k : tyA Tryz.prog 76 = some ⟨false, 1, 8, [.pointer none], 38, [], 7, []⟩ := by kernel_rfl
theorem j0m : tyA Tryz.prog 85 = some ⟨false, 1, 8, [.pointer none], 88, [], 7, []⟩ := by kernel_rfl
theorem j0n : tyA Tryz.prog 86 = some ⟨false, 1, 24, [.slice none 0 0], 4, [], 1, []⟩ := by kernel_rfl
theorem j0o : tyA Tryz.prog 87 = some ⟨true, 4, 64, [.slice none 0 0, .int .i64 0, .slice none 0 0, .bool false], 0, [(0, 24), (2, 86), (3, 4)], 3, [(0, 2), (2, 1), (3, 1)]⟩ := by kernel_rfl
theorem j0p : tyA Tryz.prog 88 = some ⟨true, 4, 64, [.slice none 0 0, .int .i64 0, .slice none 0 0, .bool false], 0, [(0, 24), (2, 86), (3, 4)], 3, [(0, 2), (2, 1), (3, 1)]⟩ := by kernel_rfl
theorem j0q : tyA Tryz.prog 97 = some ⟨false, 1, 8, [.pointer none], 103, [], 7, []⟩ := by kernel_rfl
theorem q8p : tyA Tryz.prog 100 = some ⟨true, 3, 40, [.slice none 0 0, .int .i64 0, .int .i64 0], 0, [(0, 40), (1, 3), (2, 48)], 3, [(0, 1), (1, 1), (2, 1)]⟩ := by kernel_rfl
theorem q8q : tyA Tryz.prog 101 = some ⟨true, 3, 40, [.slice none 0 0, .int .i64 0, .int .i64 0], 0, [(0, 40), (1, 3), (2, 48)], 3, [(0, 1), (1, 1), (2, 1)]⟩ := by kernel_rfl
theorem q8r : tyA Tryz.prog 102 = some ⟨true, 5, 72, [.slice none 0 0, .int .i64 0, .slice none 0 0, .int .i64 0, .int .i64 0], 0, [(0, 24), (2, 101)], 3, [(0, 2), (2, 3)]⟩ := by kernel_rfl
theorem q8s : tyA Tryz.prog 103 = some ⟨true, 5, 72, [.slice none 0 0, .int .i64 0, .slice none 0 0, .int .i64 0, .int .i64 0], 0, [(0, 24), (2, 101)], 3, [(0, 2), (2, 3)]⟩ := by kernel_rfl
theorem q8t : tyA Tryz.prog 104 = some ⟨false, 1, 8, [.pointer none], 106, [], 7, []⟩ := by kernel_rfl
theorem q8u : tyA Tryz.prog 105 = some ⟨true, 5, 72, [.slice none 0 0, .int .i64 0, .slice none 0 0, .int .i64 0, .int .i64 0], 0, [(0, 24), (2, 101)], 3, [(0, 2), (2, 3)]⟩ := by kernel_rfl
theorem q8v : tyA Tryz.prog 106 = some ⟨true, 5, 72, [.slice none 0 0, .int .i64 0, .slice none 0 0, .int .i64 0, .int .i64 0], 0, [(0, 24), (2, 101)], 3, [(0, 2), (2, 3)]⟩ := by kernel_rfl
theorem q8y : tyA Tryz.prog 128 = some ⟨false, 1, 8, [.pointer none], 36, [], 7, []⟩ := by kernel_rfl
theorem q80 : tyA Tryz.prog 137 = some ⟨false, 1, 8, [.pointer none], 142, [], 7, []⟩ := by kernel_rfl
theorem q81 : tyA Tryz.prog 138 = some ⟨false, 1, 8, [.pointer none], 140, [], 7, []⟩ := by kernel_rfl
theorem q82 : tyA Tryz.prog 139 = some ⟨true, 2, 32, [.pointer none, .slice none 0 0], 0, [(0, 138), (1, 40)], 3, [(0, 1), (1, 1)]⟩ := by kernel_rfl
theorem q84 : tyA Tryz.prog 140 = some ⟨true, 2, 32, [.pointer none, .slice none 0 0], 0, [(0, 138), (1, 40)], 3, [(0, 1), (1, 1)]⟩ := by kernel_rfl
theorem q85 : tyA Tryz.prog 141 = some ⟨true, 3, 40, [.pointer none, .slice none 0 0, .bool false], 0, [(0, 140), (2, 4)], 3, [(0, 2), (2, 1)]⟩ := by kernel_rfl
theorem q86 : tyA Tryz.prog 142 = some ⟨true, 3, 40, [.pointer none, .slice none 0 0, .bool false], 0, [(0, 140), (2, 4)], 3, [(0, 2), (2, 1)]⟩ := by kernel_rfl
theorem q87 : tyA Tryz.prog 147 = some ⟨false, 1, 8, [.pointer none], 149, [], 7, []⟩ := by kernel_rfl
theorem q88 : tyA Tryz.prog 148 = some ⟨true, 3, 40, [.slice none 0 0, .int .i64 0, .int .i64 0], 0, [(0, 40), (1, 3), (2, 3)], 3, [(0, 1), (1, 1), (2, 1)]⟩ := by kernel_rfl
theorem q89 : tyA Tryz.prog 149 = some ⟨true, 3, 40, [.slice none 0 0, .int .i64 0, .int .i64 0], 0, [(0, 40), (1, 3), (2, 3)], 3, [(0, 1), (1, 1), (2, 1)]⟩ := by kernel_rfl
theorem q9c : tyA Tryz.prog 167 = some ⟨false, 1, 8, [.pointer none], 43, [], 7, []⟩ := by kernel_rfl
theorem q9d : tyA Tryz.prog 168 = some ⟨false, 1, 8, [.pointer none], 170, [], 7, []⟩ := by kernel_rfl
theorem q9e : tyA Tryz.prog 169 = some ⟨true, 4, 64, [.slice none 0 0, .int .i64 0, .slice none 0 0, .int .i64 0], 0, [(0, 24), (2, 31), (3, 3)], 3, [(0, 2), (2, 1), (3, 1)]⟩ := by kernel_rfl
theorem q9g : tyA Tryz.prog 170 = some ⟨true, 4, 64, [.slice none 0 0, .int .i64 0, .slice none 0 0, .int .i64 0], 0, [(0, 24), (2, 31), (3, 3)], 3, [(0, 2), (2, 1), (3, 1)]⟩ := by kernel_rfl
theorem q9h : tyA Tryz.prog 172 = some ⟨false, 1, 8, [.int .u64 0], 0, [], 17, []⟩ := by kernel_rfl
theorem q9i : tyA Tryz.prog 176 = some ⟨false, 1, 8, [.pointer none], 178, [], 7, []⟩ := by kernel_rfl
theorem q9j : tyA Tryz.prog 177 = some ⟨true, 3, 40, [.slice none 0 0, .int .i64 0, .int .i64 0], 0, [(0, 24), (2, 3)], 3, [(0, 2), (2, 1)]⟩ := by kernel_rfl
theorem q9k : tyA Tryz.prog 178 = some ⟨true, 3, 40, [.slice none 0 0, .int .i64 0, .int .i64 0], 0, [(0, 24), (2, 3)], 3, [(0, 2), (2, 1)]⟩ := by kernel_rfl
theorem q9m : tyA Tryz.prog 186 = some ⟨true, 15, 240, [.string ⟨#[]⟩, .string ⟨#[]⟩, .string ⟨#[]⟩, .string ⟨#[]⟩, .string ⟨#[]⟩, .string ⟨#[]⟩, .string ⟨#[]⟩, .string ⟨#[]⟩, .string ⟨#[]⟩, .string ⟨#[]⟩, .string ⟨#[]⟩, .string ⟨#[]⟩, .string ⟨#[]⟩, .string ⟨#[]⟩, .string ⟨#[]⟩], 9, [(15, 9)], 6, []⟩ := by kernel_rfl
theorem q9o : tyA Tryz.prog 196 = some ⟨false, 1, 8, [.pointer none], 5, [], 7, []⟩ := by kernel_rfl
theorem q9r : tyA Tryz.prog 231 = some ⟨false, 1, 8, [.pointer none], 233, [], 7, []⟩ := by kernel_rfl
theorem q9s : tyA Tryz.prog 232 = some ⟨true, 5, 40, [.int .u64 0, .int .u64 0, .int .i64 0, .int .u8 0, .int .i64 0], 0, [(0, 39), (1, 172), (2, 3), (3, 5), (4, 3)], 3, [(0, 1), (1, 1), (2, 1), (3, 1), (4, 1)]⟩ := by kernel_rfl
theorem q9t : tyA Tryz.prog 233 = some ⟨true, 5, 40, [.int .u64 0, .int .u64 0, .int .i64 0, .int .u8 0, .int .i64 0], 0, [(0, 39), (1, 172), (2, 3), (3, 5), (4, 3)], 3, [(0, 1), (1, 1), (2, 1), (3, 1), (4, 1)]⟩ := by kernel_rfl
theorem q9u : tyA Tryz.prog 257 = some ⟨false, 1, 8, [.pointer none], 0, [], 8, []⟩ := by kernel_rfl
theorem q9v : tyA Tryz.prog 262 = some ⟨false, 1, 4, [.int .u32 0], 0, [], 16, []⟩ := by kernel_rfl
theorem q9w : tyA Tryz.prog 268 = some ⟨false, 1, 24, [.slice none 0 0], 2, [], 1, []⟩ := by kernel_rfl
theorem q9x : tyA Tryz.prog 270 = some ⟨false, 1, 24, [.slice none 0 0], 40, [], 1, []⟩ := by kernel_rfl
theorem q9y : tyA Tryz.prog 272 = some ⟨false, 1, 8, [.int .i64 0], 0, [], 13, []⟩ := by kernel_rfl
theorem q9z : tyA Tryz.prog 281 = some ⟨false, 1, 8, [.int .u64 0], 0, [], 17, []⟩ := by kernel_rfl
theorem q90 : tyA Tryz.prog 285 = some ⟨false, 1, 8, [.pointer none], 3, [], 7, []⟩ := by kernel_rfl
theorem q91 : tyA Tryz.prog 287 = some ⟨false, 1, 8, [.pointer none], 281, [], 7, []⟩ := by kernel_rfl
theorem q92 : tyA Tryz.prog 290 = some ⟨true, 4, 40, [.pointer none, .pointer none, .pointer none, .string ⟨#[]⟩], 0, [(0, 17), (1, 17), (2, 17), (3, 9)], 3, [(0, 1), (1, 1), (2, 1), (3, 1)]⟩ := by kernel_rfl
theorem q93 : tyA Tryz.prog 291 = some ⟨true, 4, 40, [.pointer none, .pointer none, .pointer none, .string ⟨#[]⟩], 0, [(0, 17), (1, 17), (2, 17), (3, 9)], 3, [(0, 1), (1, 1), (2, 1), (3, 1)]⟩ := by kernel_rfl
theorem q94 : tyA Tryz.prog 292 = some ⟨true, 0, 0, [], 16, [(0, 16)], 6, []⟩ := by kernel_rfl
theorem q95 : tyA Tryz.prog 293 = some ⟨true, 0, 0, [], 0, [(0, 292)], 3, [(0, 0)]⟩ := by kernel_rfl
theorem q96 : tyA Tryz.prog 294 = some ⟨true, 0, 0, [], 0, [(0, 292)], 3, [(0, 0)]⟩ := by kernel_rfl
theorem q97 : tyA Tryz.prog 295 = some ⟨false, 1, 1, [.int .u8 0], 0, [], 14, []⟩ := by kernel_rfl
theorem q98 : tyA Tryz.prog 296 = some ⟨false, 1, 1, [.int .u8 0], 0, [], 14, []⟩ := by kernel_rfl
theorem q99 : tyA Tryz.prog 298 = some ⟨false, 1, 4, [.int .i32 0], 0, [], 12, []⟩ := by kernel_rfl
theorem j0a : tyA Tryz.prog 299 = some ⟨false, 1, 4, [.int .i32 0], 0, [], 12, []⟩ := by kernel_rfl
theorem j1k : q0g Tryz.prog 7 := q0h Tryz.func7 (by kernel_rfl) (by kernel_rfl)
theorem ent_8 : q0g Tryz.prog 8 := q0h Tryz.func8 (by kernel_rfl) (by kernel_rfl)
theorem ent_15 : q0g Tryz.prog 15 := q0h Tryz.func15 (by kernel_rfl) (by kernel_rfl)
theorem ent_17 : q0g Tryz.prog 17 := q0h Tryz.func17 (by kernel_rfl) (by kernel_rfl)
theorem ent_24 : q0g Tryz.prog 24 := q0h Tryz.func24 (by kernel_rfl) (by kernel_rfl)
theorem ent_26 : q0g Tryz.prog 26 := q0h Tryz.func26 (by kernel_rfl) (by kernel_rfl)
theorem j01 : q0g Tryz.prog 28 := q0h Tryz.func28 (by kernel_rfl) (by kernel_rfl)
theorem ent_29 : q0g Tryz.prog 29 := q0h Tryz.func29 (by kernel_rfl) (by kernel_rfl)
theorem ent_30 : q0g Tryz.prog 30 := q0h Tryz.func30 (by kernel_rfl) (by kernel_rfl)
theorem ent_31 : q0g Tryz.prog 31 := q0h Tryz.func31 (by kernel_rfl) (by kernel_rfl)
theorem j3l : q0g Tryz.prog 32 := q0h Tryz.func32 (by kernel_rfl) (by kernel_rfl)
theorem ent_33 : q0g Tryz.prog 33 := q0h Tryz.func33 (by kernel_rfl) (by kernel_rfl)
theorem ent_34 : q0g Tryz.prog 34 := q0h Tryz.func34 (by kernel_rfl) (by kernel_rfl)
theorem ent_36 : q0g Tryz.prog 36 := q0h Tryz.func36 (by kernel_rfl) (by kernel_rfl)
theorem ent_43 : q0g Tryz.prog 43 := q0h Tryz.func43 (by kernel_rfl) (by kernel_rfl)
theorem ent_47 : q0g Tryz.prog 47 := q0h Tryz.func47 (by kernel_rfl) (by kernel_rfl)
theorem ent_48 : q0g Tryz.prog 48 := q0h Tryz.func48 (by kernel_rfl) (by kernel_rfl)
theorem ent_49 : q0g Tryz.prog 49 := q0h Tryz.func49 (by kernel_rfl) (by kernel_rfl)
theorem ent_50 : q0g Tryz.prog 50 := q0h Tryz.func50 (by kernel_rfl) (by kernel_rfl)
theorem ent_52 : q0g Tryz.prog 52 := q0h Tryz.func52 (by kernel_rfl) (by kernel_rfl)
theorem ent_56 : q0g Tryz.prog 56 := q0h Tryz.func56 (by kernel_rfl) (by kernel_rfl)
theorem j1j : q0g Tryz.prog 59 := q0h Tryz.func59 (by kernel_rfl) (by kernel_rfl)
theorem q35 : q0g Tryz.prog 62 := q0h Tryz.func62 (by kernel_rfl) (by kernel_rfl)
theorem ent_63 : q0g Tryz.prog 63 := q0h Tryz.func63 (by kernel_rfl) (by kernel_rfl)
theorem ent_64 : q0g Tryz.prog 64 := q0h Tryz.func64 (by kernel_rfl) (by kernel_rfl)
theorem ent_65 : q0g Tryz.prog 65 := q0h Tryz.func65 (by kernel_rfl) (by kernel_rfl)
theorem ent_66 : q0g Tryz.prog 66 := q0h Tryz.func66 (by kernel_rfl) (by kernel_rfl)
theorem j3m : q0g Tryz.prog 67 := q0h Tryz.func67 (by kernel_rfl) (by kernel_rfl)
theorem ent_68 : q0g Tryz.prog 68 := q0h Tryz.func68 (by kernel_rfl) (by kernel_rfl)
theorem ent_69 : q0g Tryz.prog 69 := q0h Tryz.func69 (by kernel_rfl) (by kernel_rfl)
theorem ent_70 : q0g Tryz.prog 70 := q0h Tryz.func70 (by kernel_rfl) (by kernel_rfl)
theorem ent_71 : q0g Tryz.prog 71 := q0h Tryz.func71 (by kernel_rfl) (by kernel_rfl)
theorem ent_72 : q0g Tryz.prog 72 := q0h Tryz.func72 (by kernel_rfl) (by kernel_rfl)
theorem ent_76 : q0g Tryz.prog 76 := q0h Tryz.func76 (by kernel_rfl) (by kernel_rfl)
theorem ent_88 : q0g Tryz.prog 88 := q0h Tryz.func88 (by kernel_rfl) (by kernel_rfl)
theorem ent_89 : q0g Tryz.prog 89 := q0h Tryz.func89 (by kernel_rfl) (by kernel_rfl)
theorem ent_90 : q0g Tryz.prog 90 := q0h Tryz.func90 (by kernel_rfl) (by kernel_rfl)
theorem ent_91 : q0g Tryz.prog 91 := q0h Tryz.func91 (by kernel_rfl) (by kernel_rfl)
theorem ent_92 : q0g Tryz.prog 92 := q0h Tryz.func92 (by kernel_rfl) (by kernel_rfl)
theorem ent_95 : q0g Tryz.prog 95 := q0h Tryz.func95 (by kernel_rfl) (by kernel_rfl)
theorem ent_96 : q0g Tryz.prog 96 := q0h Tryz.func96 (by kernel_rfl) (by kernel_rfl)
theorem ent_100 : q0g Tryz.prog 100 := q0h Tryz.func100 (by kernel_rfl) (by kernel_rfl)
theorem ent_103 : q0g Tryz.prog 103 := q0h Tryz.func103 (by kernel_rfl) (by kernel_rfl)
theorem q6k : q0g Tryz.prog 105 := q0h Tryz.func105 (by kernel_rfl) (by kernel_rfl)
theorem j3e : q0g Tryz.prog 106 := q0h Tryz.func106 (by kernel_rfl) (by kernel_rfl)
theorem ent_107 : q0g Tryz.prog 107 := q0h Tryz.func107 (by kernel_rfl) (by kernel_rfl)
theorem ent_110 : q0g Tryz.prog 110 := q0h Tryz.func110 (by kernel_rfl) (by kernel_rfl)
theorem j1h : q0g Tryz.prog 111 := q0h Tryz.func111 (by kernel_rfl) (by kernel_rfl)
theorem j3f : q0g Tryz.prog 112 := q0h Tryz.func112 (by kernel_rfl) (by kernel_rfl)
theorem ent_113 : q0g Tryz.prog 113 := q0h Tryz.func113 (by kernel_rfl) (by kernel_rfl)
theorem ent_115 : q0g Tryz.prog 115 := q0h Tryz.func115 (by kernel_rfl) (by kernel_rfl)
theorem ent_116 : q0g Tryz.prog 116 := q0h Tryz.func116 (by kernel_rfl) (by kernel_rfl)
theorem ent_117 : q0g Tryz.prog 117 := q0h Tryz.func117 (by kernel_rfl) (by kernel_rfl)
theorem j5h : q0g Tryz.prog 118 := q0h Tryz.func118 (by kernel_rfl) (by kernel_rfl)
theorem ent_119 : q0g Tryz.prog 119 := q0h Tryz.func119 (by kernel_rfl) (by kernel_rfl)
theorem j3g : q0g Tryz.prog 120 := q0h Tryz.func120 (by kernel_rfl) (by kernel_rfl)
theorem ent_121 : q0g Tryz.prog 121 := q0h Tryz.func121 (by kernel_rfl) (by kernel_rfl)
theorem ent_122 : q0g Tryz.prog 122 := q0h Tryz.func122 (by kernel_rfl) (by kernel_rfl)
theorem ent_123 : q0g Tryz.prog 123 := q0h Tryz.func123 (by kernel_rfl) (by kernel_rfl)
theorem ent_124 : q0g Tryz.prog 124 := q0h Tryz.func124 (by kernel_rfl) (by kernel_rfl)
theorem ent_125 : q0g Tryz.prog 125 := q0h Tryz.func125 (by kernel_rfl) (by kernel_rfl)
theorem ent_126 : q0g Tryz.prog 126 := q0h Tryz.func126 (by kernel_rfl) (by kernel_rfl)
theorem ent_127 : q0g Tryz.prog 127 := q0h Tryz.func127 (by kernel_rfl) (by kernel_rfl)
theorem j5i : q0g Tryz.prog 128 := q0h Tryz.func128 (by kernel_rfl) (by kernel_rfl)
theorem ent_129 : q0g Tryz.prog 129 := q0h Tryz.func129 (by kernel_rfl) (by kernel_rfl)
theorem ent_130 : q0g Tryz.prog 130 := q0h Tryz.func130 (by kernel_rfl) (by kernel_rfl)
theorem ent_131 : q0g Tryz.prog 131 := q0h Tryz.func131 (by kernel_rfl) (by kernel_rfl)
theorem ent_132 : q0g Tryz.prog 132 := q0h Tryz.func132 (by kernel_rfl) (by kernel_rfl)
theorem ent_133 : q0g Tryz.prog 133 := q0h Tryz.func133 (by kernel_rfl) (by kernel_rfl)
theorem ent_134 : q0g Tryz.prog 134 := q0h Tryz.func134 (by kernel_rfl) (by kernel_rfl)
theorem ent_135 : q0g Tryz.prog 135 := q0h Tryz.func135 (by kernel_rfl) (by kernel_rfl)
theorem ent_136 : q0g Tryz.prog 136 := q0h Tryz.func136 (by kernel_rfl) (by kernel_rfl)
theorem ent_137 : q0g Tryz.prog 137 := q0h Tryz.func137 (by kernel_rfl) (by kernel_rfl)
theorem ent_138 : q0g Tryz.prog 138 := q0h Tryz.func138 (by kernel_rfl) (by kernel_rfl)
theorem j5j : q0g Tryz.prog 144 := q0h Tryz.func144 (by kernel_rfl) (by kernel_rfl)
theorem ent_145 : q0g Tryz.prog 145 := q0h Tryz.func145 (by kernel_rfl) (by kernel_rfl)
theorem ent_146 : q0g Tryz.prog 146 := q0h Tryz.func146 (by kernel_rfl) (by kernel_rfl)
theorem ent_147 : q0g Tryz.prog 147 := q0h Tryz.func147 (by kernel_rfl) (by kernel_rfl)
theorem ent_148 : q0g Tryz.prog 148 := q0h Tryz.func148 (by kernel_rfl) (by kernel_rfl)
theorem ent_149 : q0g Tryz.prog 149 := q0h Tryz.func149 (by kernel_rfl) (by kernel_rfl)
theorem ent_150 : q0g Tryz.prog 150 := q0h Tryz.func150 (by kernel_rfl) (by kernel_rfl)
theorem ent_157 : q0g Tryz.prog 157 := q0h Tryz.func157 (by kernel_rfl) (by kernel_rfl)
theorem q5g : q0g Tryz.prog 160 := q0h Tryz.func160 (by kernel_rfl) (by kernel_rfl)
theorem q7y : q0g Tryz.prog 161 := q0h Tryz.func161 (by kernel_rfl) (by kernel_rfl)
theorem q7z : q0g Tryz.prog 162 := q0h Tryz.func162 (by kernel_rfl) (by kernel_rfl)
theorem j5k : q0g Tryz.prog 163 := q0h Tryz.func163 (by kernel_rfl) (by kernel_rfl)
theorem j5l : q0g Tryz.prog 164 := q0h Tryz.func164 (by kernel_rfl) (by kernel_rfl)
theorem ent_165 : q0g Tryz.prog 165 := q0h Tryz.func165 (by kernel_rfl) (by kernel_rfl)
theorem j5m : q0g Tryz.prog 166 := q0h Tryz.func166 (by kernel_rfl) (by kernel_rfl)
theorem ent_167 : q0g Tryz.prog 167 := q0h Tryz.func167 (by kernel_rfl) (by kernel_rfl)
theorem ent_169 : q0g Tryz.prog 169 := q0h Tryz.func169 (by kernel_rfl) (by kernel_rfl)
theorem ent_170 : q0g Tryz.prog 170 := q0h Tryz.func170 (by kernel_rfl) (by kernel_rfl)
theorem ent_171 : q0g Tryz.prog 171 := q0h Tryz.func171 (by kernel_rfl) (by kernel_rfl)
theorem ent_172 : q0g Tryz.prog 172 := q0h Tryz.func172 (by kernel_rfl) (by kernel_rfl)
theorem ent_173 : q0g Tryz.prog 173 := q0h Tryz.func173 (by kernel_rfl) (by kernel_rfl)
theorem ent_174 : q0g Tryz.prog 174 := q0h Tryz.func174 (by kernel_rfl) (by kernel_rfl)
theorem ent_175 : q0g Tryz.prog 175 := q0h Tryz.func175 (by kernel_rfl) (by kernel_rfl)
theorem ent_176 : q0g Tryz.prog 176 := q0h Tryz.func176 (by kernel_rfl) (by kernel_rfl)
theorem ent_177 : q0g Tryz.prog 177 := q0h Tryz.func177 (by kernel_rfl) (by kernel_rfl)
theorem ent_178 : q0g Tryz.prog 178 := q0h Tryz.func178 (by kernel_rfl) (by kernel_rfl)
theorem ent_179 : q0g Tryz.prog 179 := q0h Tryz.func179 (by kernel_rfl) (by kernel_rfl)
theorem ent_180 : q0g Tryz.prog 180 := q0h Tryz.func180 (by kernel_rfl) (by kernel_rfl)
theorem ent_181 : q0g Tryz.prog 181 := q0h Tryz.func181 (by kernel_rfl) (by kernel_rfl)
theorem ent_182 : q0g Tryz.prog 182 := q0h Tryz.func182 (by kernel_rfl) (by kernel_rfl)
theorem ent_183 : q0g Tryz.prog 183 := q0h Tryz.func183 (by kernel_rfl) (by kernel_rfl)
theorem ent_184 : q0g Tryz.prog 184 := q0h Tryz.func184 (by kernel_rfl) (by kernel_rfl)
theorem ent_185 : q0g Tryz.prog 185 := q0h Tryz.func185 (by kernel_rfl) (by kernel_rfl)
theorem ent_186 : q0g Tryz.prog 186 := q0h Tryz.func186 (by kernel_rfl) (by kernel_rfl)
theorem j5n : q0g Tryz.prog 188 := q0h Tryz.func188 (by kernel_rfl) (by kernel_rfl)
theorem ent_189 : q0g Tryz.prog 189 := q0h Tryz.func189 (by kernel_rfl) (by kernel_rfl)
theorem ent_190 : q0g Tryz.prog 190 := q0h Tryz.func190 (by kernel_rfl) (by kernel_rfl)
theorem ent_191 : q0g Tryz.prog 191 := q0h Tryz.func191 (by kernel_rfl) (by kernel_rfl)
theorem ent_192 : q0g Tryz.prog 192 := q0h Tryz.func192 (by kernel_rfl) (by kernel_rfl)
theorem ent_197 : q0g Tryz.prog 197 := q0h Tryz.func197 (by kernel_rfl) (by kernel_rfl)
theorem j3h : q0g Tryz.prog 198 := q0h Tryz.func198 (by kernel_rfl) (by kernel_rfl)
theorem ent_199 : q0g Tryz.prog 199 := q0h Tryz.func199 (by kernel_rfl) (by kernel_rfl)
theorem ent_200 : q0g Tryz.prog 200 := q0h Tryz.func200 (by kernel_rfl) (by kernel_rfl)
theorem ent_201 : q0g Tryz.prog 201 := q0h Tryz.func201 (by kernel_rfl) (by kernel_rfl)
theorem j18 : q0g Tryz.prog 202 := q0h Tryz.func202 (by kernel_rfl) (by kernel_rfl)
theorem j3i : q0g Tryz.prog 203 := q0h Tryz.func203 (by kernel_rfl) (by kernel_rfl)
theorem ent_204 : q0g Tryz.prog 204 := q0h Tryz.func204 (by kernel_rfl) (by kernel_rfl)
theorem ent_205 : q0g Tryz.prog 205 := q0h Tryz.func205 (by kernel_rfl) (by kernel_rfl)
theorem ent_206 : q0g Tryz.prog 206 := q0h Tryz.func206 (by kernel_rfl) (by kernel_rfl)
theorem ent_207 : q0g Tryz.prog 207 := q0h Tryz.func207 (by kernel_rfl) (by kernel_rfl)
theorem q70 : q0g Tryz.prog 208 := q0h Tryz.func208 (by kernel_rfl) (by kernel_rfl)
theorem ent_209 : q0g Tryz.prog 209 := q0h Tryz.func209 (by kernel_rfl) (by kernel_rfl)
theorem j5o : q0g Tryz.prog 210 := q0h Tryz.func210 (by kernel_rfl) (by kernel_rfl)
theorem ent_211 : q0g Tryz.prog 211 := q0h Tryz.func211 (by kernel_rfl) (by kernel_rfl)
theorem ent_212 : q0g Tryz.prog 212 := q0h Tryz.func212 (by kernel_rfl) (by kernel_rfl)
theorem ent_213 : q0g Tryz.prog 213 := q0h Tryz.func213 (by kernel_rfl) (by kernel_rfl)
theorem ent_214 : q0g Tryz.prog 214 := q0h Tryz.func214 (by kernel_rfl) (by kernel_rfl)
theorem ent_215 : q0g Tryz.prog 215 := q0h Tryz.func215 (by kernel_rfl) (by kernel_rfl)
theorem ent_216 : q0g Tryz.prog 216 := q0h Tryz.func216 (by kernel_rfl) (by kernel_rfl)
theorem ent_217 : q0g Tryz.prog 217 := q0h Tryz.func217 (by kernel_rfl) (by kernel_rfl)
theorem ent_218 : q0g Tryz.prog 218 := q0h Tryz.func218 (by kernel_rfl) (by kernel_rfl)
theorem ent_219 : q0g Tryz.prog 219 := q0h Tryz.func219 (by kernel_rfl) (by kernel_rfl)
theorem ent_220 : q0g Tryz.prog 220 := q0h Tryz.func220 (by kernel_rfl) (by kernel_rfl)
theorem ent_221 : q0g Tryz.prog 221 := q0h Tryz.func221 (by kernel_rfl) (by kernel_rfl)
theorem ent_224 : q0g Tryz.prog 224 := q0h Tryz.func224 (by kernel_rfl) (by kernel_rfl)
theorem ent_225 : q0g Tryz.prog 225 := q0h Tryz.func225 (by kernel_rfl) (by kernel_rfl)
theorem j3j : q0g Tryz.prog 226 := q0h Tryz.func226 (by kernel_rfl) (by kernel_rfl)
theorem j00 : q0g Tryz.prog 227 := q0h Tryz.func227 (by kernel_rfl) (by kernel_rfl)
theorem j1i : q0g Tryz.prog 228 := q0h Tryz.func228 (by kernel_rfl) (by kernel_rfl)
theorem j19 : q0g Tryz.prog 229 := q0h Tryz.func229 (by kernel_rfl) (by kernel_rfl)
theorem ent_233 : q0g Tryz.prog 233 := q0h Tryz.func233 (by kernel_rfl) (by kernel_rfl)
theorem ent_234 : q0g Tryz.prog 234 := q0h Tryz.func234 (by kernel_rfl) (by kernel_rfl)
theorem j5p : q0g Tryz.prog 238 := q0h Tryz.func238 (by kernel_rfl) (by kernel_rfl)
theorem ent_239 : q0g Tryz.prog 239 := q0h Tryz.func239 (by kernel_rfl) (by kernel_rfl)
theorem j3k : q0g Tryz.prog 240 := q0h Tryz.func240 (by kernel_rfl) (by kernel_rfl)
theorem ent_241 : q0g Tryz.prog 241 := q0h Tryz.func241 (by kernel_rfl) (by kernel_rfl)
theorem ent_243 : q0g Tryz.prog 243 := q0h Tryz.func243 (by kernel_rfl) (by kernel_rfl)
theorem ent_246 : q0g Tryz.prog 246 := q0h Tryz.func246 (by kernel_rfl) (by kernel_rfl)
theorem ent_247 : q0g Tryz.prog 247 := q0h Tryz.func247 (by kernel_rfl) (by kernel_rfl)
theorem ent_248 : q0g Tryz.prog 248 := q0h Tryz.func248 (by kernel_rfl) (by kernel_rfl)
theorem mixP : Tryz.prog.follows .mixedOrders = true := by kernel_rfl

end Go.Proofs.YtepneflbhpidbaaGreatDoor
