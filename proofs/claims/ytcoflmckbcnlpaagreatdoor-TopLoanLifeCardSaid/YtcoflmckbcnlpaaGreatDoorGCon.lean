/-
  What the program's types are, one row a type. Conditions: none. More of the kind.
-/
import Derived.Test.YtcoflmckbcnlpaaGreatDoorGEv
import Derived.Test.YtcoflmckbcnlpaaGreatDoorRows
namespace Go.Proofs.YtcoflmckbcnlpaaGreatDoor
open Go.RowKit
set_option maxRecDepth 100000
set_option linter.defProp false
theorem ty_2 : aty Tryz.prog 2 = ⟨.int .i64, 1, 8, [.int .i64 0], []⟩ := by kernel_rfl
theorem ty_3 : aty Tryz.prog 3 = ⟨.int .i64, 1, 8, [.int .i64 0], []⟩ := by kernel_rfl
theorem ty_4 : aty Tryz.prog 4 = ⟨.bool, 1, 1, [.bool false], []⟩ := by kernel_rfl
theorem ty_5 : aty Tryz.prog 5 = ⟨.int .u8, 1, 1, [.int .u8 0], []⟩ := by kernel_rfl
theorem ty_9 : aty Tryz.prog 9 = ⟨.str, 1, 16, [.string ⟨#[]⟩], []⟩ := by kernel_rfl
theorem ty_12 : aty Tryz.prog 12 = ⟨.int .u64, 1, 8, [.int .u64 0], []⟩ := by kernel_rfl
theorem ty_13 : aty Tryz.prog 13 = ⟨.struct, 2, 24, [.string ⟨#[]⟩, .int .u64 0], [(0, 9), (1, 12)]⟩ := by kernel_rfl
theorem ty_21 : aty Tryz.prog 21 = ⟨.int .i32, 1, 4, [.int .i32 0], []⟩ := by kernel_rfl
theorem ty_22 : aty Tryz.prog 22 = ⟨.struct, 12, 112, [.int .i64 0, .int .i64 0, .int .i64 0, .int .i64 0, .int .i64 0, .int .i64 0, .int .i64 0, .int .i64 0, .int .i64 0, .int .i64 0, .string ⟨#[]⟩, .string ⟨#[]⟩], [(0, 3), (1, 3), (2, 3), (3, 3), (4, 3), (5, 3), (6, 3), (7, 3), (8, 3), (9, 3), (10, 9), (11, 9)]⟩ := by kernel_rfl
theorem ty_23 : aty Tryz.prog 23 = ⟨.struct, 12, 112, [.int .i64 0, .int .i64 0, .int .i64 0, .int .i64 0, .int .i64 0, .int .i64 0, .int .i64 0, .int .i64 0, .int .i64 0, .int .i64 0, .string ⟨#[]⟩, .string ⟨#[]⟩], [(0, 3), (1, 3), (2, 3), (3, 3), (4, 3), (5, 3), (6, 3), (7, 3), (8, 3), (9, 3), (10, 9), (11, 9)]⟩ := by kernel_rfl
theorem ty_24 : aty Tryz.prog 24 = ⟨.slice 3, 1, 24, [.slice none 0 0], []⟩ := by kernel_rfl
theorem ty_25 : aty Tryz.prog 25 = ⟨.struct, 3, 64, [.string ⟨#[]⟩, .slice none 0 0, .slice none 0 0], [(0, 9), (1, 24), (2, 24)]⟩ := by kernel_rfl
theorem ty_26 : aty Tryz.prog 26 = ⟨.struct, 3, 64, [.string ⟨#[]⟩, .slice none 0 0, .slice none 0 0], [(0, 9), (1, 24), (2, 24)]⟩ := by kernel_rfl
theorem ty_29 : aty Tryz.prog 29 = ⟨.slice 39, 1, 24, [.slice none 0 0], []⟩ := by kernel_rfl
theorem ty_30 : aty Tryz.prog 30 = ⟨.slice 69, 1, 24, [.slice none 0 0], []⟩ := by kernel_rfl
theorem ty_31 : aty Tryz.prog 31 = ⟨.struct, 25, 248, [.int .i64 0, .int .i64 0, .int .i64 0, .int .i64 0, .int .i64 0, .int .i64 0, .int .i64 0, .int .i64 0, .int .i64 0, .int .i64 0, .int .i64 0, .int .i64 0, .int .i64 0, .int .i64 0, .int .i64 0, .int .i64 0, .int .i64 0, .int .i64 0, .int .i64 0, .int .i64 0, .int .i64 0, .string ⟨#[]⟩, .string ⟨#[]⟩, .slice none 0 0, .slice none 0 0], [(0, 3), (1, 3), (2, 3), (3, 3), (4, 3), (5, 3), (6, 3), (7, 3), (8, 3), (9, 3), (10, 3), (11, 23), (23, 29), (24, 30)]⟩ := by kernel_rfl
theorem ty_32 : aty Tryz.prog 32 = ⟨.struct, 25, 248, [.int .i64 0, .int .i64 0, .int .i64 0, .int .i64 0, .int .i64 0, .int .i64 0, .int .i64 0, .int .i64 0, .int .i64 0, .int .i64 0, .int .i64 0, .int .i64 0, .int .i64 0, .int .i64 0, .int .i64 0, .int .i64 0, .int .i64 0, .int .i64 0, .int .i64 0, .int .i64 0, .int .i64 0, .string ⟨#[]⟩, .string ⟨#[]⟩, .slice none 0 0, .slice none 0 0], [(0, 3), (1, 3), (2, 3), (3, 3), (4, 3), (5, 3), (6, 3), (7, 3), (8, 3), (9, 3), (10, 3), (11, 23), (23, 29), (24, 30)]⟩ := by kernel_rfl
theorem ty_33 : aty Tryz.prog 33 = ⟨.int .i64, 1, 8, [.int .i64 0], []⟩ := by kernel_rfl
theorem ty_38 : aty Tryz.prog 38 = ⟨.struct, 4, 32, [.int .i64 0, .int .i64 0, .int .i64 0, .int .i64 0], [(0, 3), (1, 3), (2, 3), (3, 3)]⟩ := by kernel_rfl
theorem ty_39 : aty Tryz.prog 39 = ⟨.struct, 4, 32, [.int .i64 0, .int .i64 0, .int .i64 0, .int .i64 0], [(0, 3), (1, 3), (2, 3), (3, 3)]⟩ := by kernel_rfl
theorem ty_40 : aty Tryz.prog 40 = ⟨.slice 64, 1, 24, [.slice none 0 0], []⟩ := by kernel_rfl
theorem ty_57 : aty Tryz.prog 57 = ⟨.ptr 60, 1, 8, [.pointer none], []⟩ := by kernel_rfl
theorem ty_59 : aty Tryz.prog 59 = ⟨.struct, 3, 56, [.int .i64 0, .slice none 0 0, .slice none 0 0], [(0, 3), (1, 40), (2, 40)]⟩ := by kernel_rfl
theorem ty_60 : aty Tryz.prog 60 = ⟨.struct, 3, 56, [.int .i64 0, .slice none 0 0, .slice none 0 0], [(0, 3), (1, 40), (2, 40)]⟩ := by kernel_rfl
theorem ty_63 : aty Tryz.prog 63 = ⟨.struct, 2, 16, [.int .i64 0, .int .i64 0], [(0, 3), (1, 3)]⟩ := by kernel_rfl
theorem ty_64 : aty Tryz.prog 64 = ⟨.struct, 2, 16, [.int .i64 0, .int .i64 0], [(0, 3), (1, 3)]⟩ := by kernel_rfl
theorem ty_68 : aty Tryz.prog 68 = ⟨.struct, 14, 128, [.int .i64 0, .int .i64 0, .int .i64 0, .int .i64 0, .int .i64 0, .int .i64 0, .int .i64 0, .int .i64 0, .int .i64 0, .int .i64 0, .int .i64 0, .int .i64 0, .string ⟨#[]⟩, .string ⟨#[]⟩], [(0, 3), (1, 3), (2, 23)]⟩ := by kernel_rfl
theorem ty_69 : aty Tryz.prog 69 = ⟨.struct, 14, 128, [.int .i64 0, .int .i64 0, .int .i64 0, .int .i64 0, .int .i64 0, .int .i64 0, .int .i64 0, .int .i64 0, .int .i64 0, .int .i64 0, .int .i64 0, .int .i64 0, .string ⟨#[]⟩, .string ⟨#[]⟩], [(0, 3), (1, 3), (2, 23)]⟩ := by kernel_rfl
theorem ty_72 : aty Tryz.prog 72 = ⟨.slice 124, 1, 24, [.slice none 0 0], []⟩ := by kernel_rfl
theorem ty_73 : aty Tryz.prog 73 = ⟨.slice 26, 1, 24, [.slice none 0 0], []⟩ := by kernel_rfl
theorem ty_74 : aty Tryz.prog 74 = ⟨.slice 126, 1, 24, [.slice none 0 0], []⟩ := by kernel_rfl
theorem ty_75 : aty Tryz.prog 75 = ⟨.struct, 14, 112, [.int .i64 0, .int .i64 0, .int .i64 0, .int .i64 0, .int .i64 0, .int .i64 0, .int .i64 0, .int .i64 0, .int .i64 0, .int .i64 0, .int .i64 0, .int .i64 0, .int .i64 0, .int .i64 0], [(0, 3), (1, 3), (2, 3), (3, 3), (4, 3), (5, 3), (6, 3), (7, 3), (8, 3), (9, 3), (10, 3), (11, 3), (12, 3), (13, 3)]⟩ := by kernel_rfl
theorem ty_76 : aty Tryz.prog 76 = ⟨.struct, 14, 112, [.int .i64 0, .int .i64 0, .int .i64 0, .int .i64 0, .int .i64 0, .int .i64 0, .int .i64 0, .int .i64 0, .int .i64 0, .int .i64 0, .int .i64 0, .int .i64 0, .int .i64 0, .int .i64 0], [(0, 3), (1, 3), (2, 3), (3, 3), (4, 3), (5, 3), (6, 3), (7, 3), (8, 3), (9, 3), (10, 3), (11, 3), (12, 3), (13, 3)]⟩ := by kernel_rfl
theorem ty_77 : aty Tryz.prog 77 = ⟨.slice 135, 1, 24, [.slice none 0 0], []⟩ := by kernel_rfl
theorem ty_78 : aty Tryz.prog 78 = ⟨.slice 138, 1, 24, [.slice none 0 0], []⟩ := by kernel_rfl
theorem ty_79 : aty Tryz.prog 79 = ⟨.slice 92, 1, 24, [.slice none 0 0], []⟩ := by kernel_rfl
theorem ty_80 : aty Tryz.prog 80 = ⟨.slice 297, 1, 24, [.slice none 0 0], []⟩ := by kernel_rfl
theorem ty_81 : aty Tryz.prog 81 = ⟨.slice 231, 1, 24, [.slice none 0 0], []⟩ := by kernel_rfl
theorem ty_82 : aty Tryz.prog 82 = ⟨.struct, 22, 304, [.slice none 0 0, .slice none 0 0, .slice none 0 0, .int .i64 0, .int .i64 0, .int .i64 0, .int .i64 0, .int .i64 0, .int .i64 0, .int .i64 0, .int .i64 0, .int .i64 0, .int .i64 0, .int .i64 0, .int .i64 0, .int .i64 0, .int .i64 0, .slice none 0 0, .slice none 0 0, .slice none 0 0, .slice none 0 0, .slice none 0 0], [(0, 72), (1, 73), (2, 74), (3, 76), (17, 77), (18, 78), (19, 79), (20, 80), (21, 81)]⟩ := by kernel_rfl
theorem ty_83 : aty Tryz.prog 83 = ⟨.struct, 22, 304, [.slice none 0 0, .slice none 0 0, .slice none 0 0, .int .i64 0, .int .i64 0, .int .i64 0, .int .i64 0, .int .i64 0, .int .i64 0, .int .i64 0, .int .i64 0, .int .i64 0, .int .i64 0, .int .i64 0, .int .i64 0, .int .i64 0, .int .i64 0, .slice none 0 0, .slice none 0 0, .slice none 0 0, .slice none 0 0, .slice none 0 0], [(0, 72), (1, 73), (2, 74), (3, 76), (17, 77), (18, 78), (19, 79), (20, 80), (21, 81)]⟩ := by kernel_rfl
theorem ty_87 : aty Tryz.prog 87 = ⟨.struct, 3, 32, [.int .i64 0, .int .i64 0, .string ⟨#[]⟩], [(0, 3), (1, 3), (2, 9)]⟩ := by kernel_rfl
theorem ty_88 : aty Tryz.prog 88 = ⟨.struct, 3, 32, [.int .i64 0, .int .i64 0, .string ⟨#[]⟩], [(0, 3), (1, 3), (2, 9)]⟩ := by kernel_rfl
theorem ty_89 : aty Tryz.prog 89 = ⟨.slice 88, 1, 24, [.slice none 0 0], []⟩ := by kernel_rfl
theorem ty_90 : aty Tryz.prog 90 = ⟨.int .u64, 1, 8, [.int .u64 0], []⟩ := by kernel_rfl
theorem ty_91 : aty Tryz.prog 91 = ⟨.struct, 10, 112, [.int .i64 0, .int .i64 0, .int .i64 0, .int .i64 0, .int .i64 0, .int .i64 0, .string ⟨#[]⟩, .string ⟨#[]⟩, .slice none 0 0, .int .u64 0], [(0, 3), (1, 3), (2, 3), (3, 3), (4, 3), (5, 3), (6, 9), (7, 9), (8, 89), (9, 90)]⟩ := by kernel_rfl
theorem ty_92 : aty Tryz.prog 92 = ⟨.struct, 10, 112, [.int .i64 0, .int .i64 0, .int .i64 0, .int .i64 0, .int .i64 0, .int .i64 0, .string ⟨#[]⟩, .string ⟨#[]⟩, .slice none 0 0, .int .u64 0], [(0, 3), (1, 3), (2, 3), (3, 3), (4, 3), (5, 3), (6, 9), (7, 9), (8, 89), (9, 90)]⟩ := by kernel_rfl
theorem ty_102 : aty Tryz.prog 102 = ⟨.struct, 2, 16, [.int .i64 0, .int .u64 0], [(0, 3), (1, 90)]⟩ := by kernel_rfl
theorem ty_103 : aty Tryz.prog 103 = ⟨.struct, 2, 16, [.int .i64 0, .int .u64 0], [(0, 3), (1, 90)]⟩ := by kernel_rfl
theorem ty_113 : aty Tryz.prog 113 = ⟨.struct, 3, 24, [.int .i64 0, .int .i64 0, .int .i64 0], [(0, 3), (1, 3), (2, 3)]⟩ := by kernel_rfl
theorem ty_114 : aty Tryz.prog 114 = ⟨.struct, 3, 24, [.int .i64 0, .int .i64 0, .int .i64 0], [(0, 3), (1, 3), (2, 3)]⟩ := by kernel_rfl
theorem ty_118 : aty Tryz.prog 118 = ⟨.arr 4 64, 8, 64, [.int .i64 0, .int .i64 0, .int .i64 0, .int .i64 0, .int .i64 0, .int .i64 0, .int .i64 0, .int .i64 0], []⟩ := by kernel_rfl
theorem ty_123 : aty Tryz.prog 123 = ⟨.struct, 2, 24, [.string ⟨#[]⟩, .int .i64 0], [(0, 9), (1, 3)]⟩ := by kernel_rfl
theorem ty_124 : aty Tryz.prog 124 = ⟨.struct, 2, 24, [.string ⟨#[]⟩, .int .i64 0], [(0, 9), (1, 3)]⟩ := by kernel_rfl
theorem ty_125 : aty Tryz.prog 125 = ⟨.struct, 4, 40, [.int .i64 0, .int .i64 0, .int .i64 0, .string ⟨#[]⟩], [(0, 3), (1, 3), (2, 3), (3, 9)]⟩ := by kernel_rfl
theorem ty_126 : aty Tryz.prog 126 = ⟨.struct, 4, 40, [.int .i64 0, .int .i64 0, .int .i64 0, .string ⟨#[]⟩], [(0, 3), (1, 3), (2, 3), (3, 9)]⟩ := by kernel_rfl
theorem ty_127 : aty Tryz.prog 127 = ⟨.struct, 2, 16, [.int .i64 0, .int .i64 0], [(0, 3), (1, 3)]⟩ := by kernel_rfl
theorem ty_128 : aty Tryz.prog 128 = ⟨.struct, 2, 16, [.int .i64 0, .int .i64 0], [(0, 3), (1, 3)]⟩ := by kernel_rfl
theorem ty_129 : aty Tryz.prog 129 = ⟨.slice 128, 1, 24, [.slice none 0 0], []⟩ := by kernel_rfl
theorem ty_130 : aty Tryz.prog 130 = ⟨.struct, 5, 56, [.slice none 0 0, .bool false, .int .i64 0, .int .i64 0, .bool false], [(0, 129), (1, 4), (2, 3), (3, 3), (4, 4)]⟩ := by kernel_rfl
theorem ty_131 : aty Tryz.prog 131 = ⟨.struct, 5, 56, [.slice none 0 0, .bool false, .int .i64 0, .int .i64 0, .bool false], [(0, 129), (1, 4), (2, 3), (3, 3), (4, 4)]⟩ := by kernel_rfl
theorem ty_132 : aty Tryz.prog 132 = ⟨.slice 428, 1, 24, [.slice none 0 0], []⟩ := by kernel_rfl
theorem ty_133 : aty Tryz.prog 133 = ⟨.slice 272, 1, 24, [.slice none 0 0], []⟩ := by kernel_rfl
theorem ty_134 : aty Tryz.prog 134 = ⟨.struct, 19, 240, [.string ⟨#[]⟩, .string ⟨#[]⟩, .string ⟨#[]⟩, .int .i64 0, .int .i64 0, .int .i64 0, .int .i64 0, .slice none 0 0, .bool false, .int .i64 0, .int .i64 0, .bool false, .slice none 0 0, .bool false, .int .i64 0, .int .i64 0, .bool false, .slice none 0 0, .slice none 0 0], [(0, 9), (1, 9), (2, 9), (3, 3), (4, 3), (5, 3), (6, 3), (7, 131), (12, 131), (17, 132), (18, 133)]⟩ := by kernel_rfl
theorem ty_135 : aty Tryz.prog 135 = ⟨.struct, 19, 240, [.string ⟨#[]⟩, .string ⟨#[]⟩, .string ⟨#[]⟩, .int .i64 0, .int .i64 0, .int .i64 0, .int .i64 0, .slice none 0 0, .bool false, .int .i64 0, .int .i64 0, .bool false, .slice none 0 0, .bool false, .int .i64 0, .int .i64 0, .bool false, .slice none 0 0, .slice none 0 0], [(0, 9), (1, 9), (2, 9), (3, 3), (4, 3), (5, 3), (6, 3), (7, 131), (12, 131), (17, 132), (18, 133)]⟩ := by kernel_rfl
theorem ty_137 : aty Tryz.prog 137 = ⟨.struct, 7, 80, [.int .i64 0, .int .i64 0, .int .i64 0, .int .i64 0, .string ⟨#[]⟩, .string ⟨#[]⟩, .string ⟨#[]⟩], [(0, 3), (1, 3), (2, 3), (3, 3), (4, 9), (5, 9), (6, 9)]⟩ := by kernel_rfl
theorem ty_138 : aty Tryz.prog 138 = ⟨.struct, 7, 80, [.int .i64 0, .int .i64 0, .int .i64 0, .int .i64 0, .string ⟨#[]⟩, .string ⟨#[]⟩, .string ⟨#[]⟩], [(0, 3), (1, 3), (2, 3), (3, 3), (4, 9), (5, 9), (6, 9)]⟩ := by kernel_rfl
theorem ty_155 : aty Tryz.prog 155 = ⟨.arr 4 3, 4, 32, [.int .i64 0, .int .i64 0, .int .i64 0, .int .i64 0], []⟩ := by kernel_rfl
theorem ty_165 : aty Tryz.prog 165 = ⟨.slice 168, 1, 24, [.slice none 0 0], []⟩ := by kernel_rfl
theorem ty_167 : aty Tryz.prog 167 = ⟨.struct, 2, 24, [.string ⟨#[]⟩, .int .i64 0], [(0, 9), (1, 3)]⟩ := by kernel_rfl
theorem ty_168 : aty Tryz.prog 168 = ⟨.struct, 2, 24, [.string ⟨#[]⟩, .int .i64 0], [(0, 9), (1, 3)]⟩ := by kernel_rfl
theorem ty_185 : aty Tryz.prog 185 = ⟨.struct, 2, 16, [.int .u64 0, .int .u64 0], [(0, 90), (1, 90)]⟩ := by kernel_rfl
theorem ty_186 : aty Tryz.prog 186 = ⟨.struct, 2, 16, [.int .u64 0, .int .u64 0], [(0, 90), (1, 90)]⟩ := by kernel_rfl
theorem ty_196 : aty Tryz.prog 196 = ⟨.struct, 2, 16, [.int .u64 0, .int .u64 0], [(0, 90), (1, 90)]⟩ := by kernel_rfl
theorem ty_197 : aty Tryz.prog 197 = ⟨.struct, 2, 16, [.int .u64 0, .int .u64 0], [(0, 90), (1, 90)]⟩ := by kernel_rfl
theorem ty_204 : aty Tryz.prog 204 = ⟨.arr 13 3, 13, 104, [.int .i64 0, .int .i64 0, .int .i64 0, .int .i64 0, .int .i64 0, .int .i64 0, .int .i64 0, .int .i64 0, .int .i64 0, .int .i64 0, .int .i64 0, .int .i64 0, .int .i64 0], []⟩ := by kernel_rfl
theorem ty_230 : aty Tryz.prog 230 = ⟨.struct, 7, 64, [.int .i64 0, .int .i64 0, .int .i64 0, .int .i64 0, .int .i64 0, .int .i64 0, .string ⟨#[]⟩], [(0, 3), (1, 3), (2, 3), (3, 3), (4, 3), (5, 3), (6, 9)]⟩ := by kernel_rfl
theorem ty_231 : aty Tryz.prog 231 = ⟨.struct, 7, 64, [.int .i64 0, .int .i64 0, .int .i64 0, .int .i64 0, .int .i64 0, .int .i64 0, .string ⟨#[]⟩], [(0, 3), (1, 3), (2, 3), (3, 3), (4, 3), (5, 3), (6, 9)]⟩ := by kernel_rfl
theorem ty_240 : aty Tryz.prog 240 = ⟨.int .u64, 1, 8, [.int .u64 0], []⟩ := by kernel_rfl
theorem ty_245 : aty Tryz.prog 245 = ⟨.struct, 2, 16, [.int .i64 0, .int .i64 0], [(0, 3), (1, 3)]⟩ := by kernel_rfl
theorem ty_246 : aty Tryz.prog 246 = ⟨.struct, 2, 16, [.int .i64 0, .int .i64 0], [(0, 3), (1, 3)]⟩ := by kernel_rfl
theorem ty_247 : aty Tryz.prog 247 = ⟨.arr 5 246, 10, 80, [.int .i64 0, .int .i64 0, .int .i64 0, .int .i64 0, .int .i64 0, .int .i64 0, .int .i64 0, .int .i64 0, .int .i64 0, .int .i64 0], []⟩ := by kernel_rfl
theorem ty_265 : aty Tryz.prog 265 = ⟨.slice 274, 1, 24, [.slice none 0 0], []⟩ := by kernel_rfl
theorem ty_268 : aty Tryz.prog 268 = ⟨.slice 270, 1, 24, [.slice none 0 0], []⟩ := by kernel_rfl
theorem ty_269 : aty Tryz.prog 269 = ⟨.struct, 4, 56, [.int .i64 0, .int .i64 0, .string ⟨#[]⟩, .slice none 0 0], [(0, 3), (1, 3), (2, 9), (3, 268)]⟩ := by kernel_rfl
theorem ty_270 : aty Tryz.prog 270 = ⟨.struct, 4, 56, [.int .i64 0, .int .i64 0, .string ⟨#[]⟩, .slice none 0 0], [(0, 3), (1, 3), (2, 9), (3, 268)]⟩ := by kernel_rfl
theorem ty_271 : aty Tryz.prog 271 = ⟨.struct, 6, 80, [.string ⟨#[]⟩, .int .i64 0, .int .i64 0, .int .i64 0, .string ⟨#[]⟩, .slice none 0 0], [(0, 9), (1, 3), (2, 270)]⟩ := by kernel_rfl
theorem ty_272 : aty Tryz.prog 272 = ⟨.struct, 6, 80, [.string ⟨#[]⟩, .int .i64 0, .int .i64 0, .int .i64 0, .string ⟨#[]⟩, .slice none 0 0], [(0, 9), (1, 3), (2, 270)]⟩ := by kernel_rfl
theorem ty_273 : aty Tryz.prog 273 = ⟨.struct, 2, 16, [.int .i64 0, .int .i64 0], [(0, 3), (1, 3)]⟩ := by kernel_rfl
theorem ty_274 : aty Tryz.prog 274 = ⟨.struct, 2, 16, [.int .i64 0, .int .i64 0], [(0, 3), (1, 3)]⟩ := by kernel_rfl
theorem ty_277 : aty Tryz.prog 277 = ⟨.slice 308, 1, 24, [.slice none 0 0], []⟩ := by kernel_rfl
theorem ty_279 : aty Tryz.prog 279 = ⟨.struct, 1, 8, [.nilFunc], [(0, 62)]⟩ := by kernel_rfl
theorem ty_280 : aty Tryz.prog 280 = ⟨.struct, 1, 8, [.nilFunc], [(0, 62)]⟩ := by kernel_rfl
theorem ty_285 : aty Tryz.prog 285 = ⟨.slice 9, 1, 24, [.slice none 0 0], []⟩ := by kernel_rfl
theorem ty_287 : aty Tryz.prog 287 = ⟨.arr 6 3, 6, 48, [.int .i64 0, .int .i64 0, .int .i64 0, .int .i64 0, .int .i64 0, .int .i64 0], []⟩ := by kernel_rfl
theorem ty_293 : aty Tryz.prog 293 = ⟨.struct, 1, 8, [.int .i64 0], [(0, 3)]⟩ := by kernel_rfl
theorem ty_294 : aty Tryz.prog 294 = ⟨.struct, 1, 8, [.int .i64 0], [(0, 3)]⟩ := by kernel_rfl
theorem ty_296 : aty Tryz.prog 296 = ⟨.struct, 6, 56, [.int .i64 0, .int .i64 0, .int .i64 0, .int .i64 0, .int .i64 0, .string ⟨#[]⟩], [(0, 3), (1, 3), (2, 3), (3, 3), (4, 3), (5, 9)]⟩ := by kernel_rfl
theorem ty_297 : aty Tryz.prog 297 = ⟨.struct, 6, 56, [.int .i64 0, .int .i64 0, .int .i64 0, .int .i64 0, .int .i64 0, .string ⟨#[]⟩], [(0, 3), (1, 3), (2, 3), (3, 3), (4, 3), (5, 9)]⟩ := by kernel_rfl
theorem ty_306 : aty Tryz.prog 306 = ⟨.arr 4 9, 4, 64, [.string ⟨#[]⟩, .string ⟨#[]⟩, .string ⟨#[]⟩, .string ⟨#[]⟩], []⟩ := by kernel_rfl
theorem ty_307 : aty Tryz.prog 307 = ⟨.struct, 2, 24, [.string ⟨#[]⟩, .int .i64 0], [(0, 9), (1, 3)]⟩ := by kernel_rfl
theorem ty_308 : aty Tryz.prog 308 = ⟨.struct, 2, 24, [.string ⟨#[]⟩, .int .i64 0], [(0, 9), (1, 3)]⟩ := by kernel_rfl
theorem ty_309 : aty Tryz.prog 309 = ⟨.arr 2 9, 2, 32, [.string ⟨#[]⟩, .string ⟨#[]⟩], []⟩ := by kernel_rfl
theorem ty_310 : aty Tryz.prog 310 = ⟨.slice 5, 1, 24, [.slice none 0 0], []⟩ := by kernel_rfl
theorem ty_313 : aty Tryz.prog 313 = ⟨.iface, 1, 16, [.nilIface], []⟩ := by kernel_rfl
theorem ty_335 : aty Tryz.prog 335 = ⟨.arr 24 5, 24, 24, [.int .u8 0, .int .u8 0, .int .u8 0, .int .u8 0, .int .u8 0, .int .u8 0, .int .u8 0, .int .u8 0, .int .u8 0, .int .u8 0, .int .u8 0, .int .u8 0, .int .u8 0, .int .u8 0, .int .u8 0, .int .u8 0, .int .u8 0, .int .u8 0, .int .u8 0, .int .u8 0, .int .u8 0, .int .u8 0, .int .u8 0, .int .u8 0], []⟩ := by kernel_rfl
theorem ty_340 : aty Tryz.prog 340 = ⟨.slice 344, 1, 24, [.slice none 0 0], []⟩ := by kernel_rfl
theorem ty_343 : aty Tryz.prog 343 = ⟨.struct, 3, 32, [.int .i64 0, .int .i64 0, .string ⟨#[]⟩], [(0, 3), (1, 3), (2, 9)]⟩ := by kernel_rfl
theorem ty_344 : aty Tryz.prog 344 = ⟨.struct, 3, 32, [.int .i64 0, .int .i64 0, .string ⟨#[]⟩], [(0, 3), (1, 3), (2, 9)]⟩ := by kernel_rfl
theorem ty_345 : aty Tryz.prog 345 = ⟨.other, 1, 8, [.map none], []⟩ := by kernel_rfl
theorem ty_347 : aty Tryz.prog 347 = ⟨.struct, 3, 24, [.int .i64 0, .int .i64 0, .int .i64 0], [(0, 3), (1, 3), (2, 3)]⟩ := by kernel_rfl
theorem ty_348 : aty Tryz.prog 348 = ⟨.struct, 3, 24, [.int .i64 0, .int .i64 0, .int .i64 0], [(0, 3), (1, 3), (2, 3)]⟩ := by kernel_rfl
theorem ty_349 : aty Tryz.prog 349 = ⟨.arr 20 90, 20, 160, [.int .u64 0, .int .u64 0, .int .u64 0, .int .u64 0, .int .u64 0, .int .u64 0, .int .u64 0, .int .u64 0, .int .u64 0, .int .u64 0, .int .u64 0, .int .u64 0, .int .u64 0, .int .u64 0, .int .u64 0, .int .u64 0, .int .u64 0, .int .u64 0, .int .u64 0, .int .u64 0], []⟩ := by kernel_rfl
theorem ty_350 : aty Tryz.prog 350 = ⟨.int .u32, 1, 4, [.int .u32 0], []⟩ := by kernel_rfl
theorem ty_355 : aty Tryz.prog 355 = ⟨.arr 2 3, 2, 16, [.int .i64 0, .int .i64 0], []⟩ := by kernel_rfl
theorem ty_356 : aty Tryz.prog 356 = ⟨.arr 3 3, 3, 24, [.int .i64 0, .int .i64 0, .int .i64 0], []⟩ := by kernel_rfl
theorem ty_363 : aty Tryz.prog 363 = ⟨.arr 32 5, 32, 32, [.int .u8 0, .int .u8 0, .int .u8 0, .int .u8 0, .int .u8 0, .int .u8 0, .int .u8 0, .int .u8 0, .int .u8 0, .int .u8 0, .int .u8 0, .int .u8 0, .int .u8 0, .int .u8 0, .int .u8 0, .int .u8 0, .int .u8 0, .int .u8 0, .int .u8 0, .int .u8 0, .int .u8 0, .int .u8 0, .int .u8 0, .int .u8 0, .int .u8 0, .int .u8 0, .int .u8 0, .int .u8 0, .int .u8 0, .int .u8 0, .int .u8 0, .int .u8 0], []⟩ := by kernel_rfl
theorem ty_381 : aty Tryz.prog 381 = ⟨.int .i64, 1, 8, [.int .i64 0], []⟩ := by kernel_rfl
theorem ty_384 : aty Tryz.prog 384 = ⟨.ptr 395, 1, 8, [.pointer none], []⟩ := by kernel_rfl
theorem ty_387 : aty Tryz.prog 387 = ⟨.slice 389, 1, 24, [.slice none 0 0], []⟩ := by kernel_rfl
theorem ty_388 : aty Tryz.prog 388 = ⟨.struct, 2, 16, [.int .i64 0, .int .i64 0], [(0, 3), (1, 3)]⟩ := by kernel_rfl
theorem ty_389 : aty Tryz.prog 389 = ⟨.struct, 2, 16, [.int .i64 0, .int .i64 0], [(0, 3), (1, 3)]⟩ := by kernel_rfl
theorem ty_391 : aty Tryz.prog 391 = ⟨.ptr 400, 1, 8, [.pointer none], []⟩ := by kernel_rfl
theorem ty_394 : aty Tryz.prog 394 = ⟨.struct, 3, 48, [.string ⟨#[]⟩, .string ⟨#[]⟩, .nilIface], [(0, 9), (1, 9), (2, 313)]⟩ := by kernel_rfl
theorem ty_395 : aty Tryz.prog 395 = ⟨.struct, 3, 48, [.string ⟨#[]⟩, .string ⟨#[]⟩, .nilIface], [(0, 9), (1, 9), (2, 313)]⟩ := by kernel_rfl
theorem ty_397 : aty Tryz.prog 397 = ⟨.slice 403, 1, 24, [.slice none 0 0], []⟩ := by kernel_rfl
theorem ty_398 : aty Tryz.prog 398 = ⟨.slice 406, 1, 24, [.slice none 0 0], []⟩ := by kernel_rfl
theorem ty_399 : aty Tryz.prog 399 = ⟨.struct, 3, 56, [.slice none 0 0, .slice none 0 0, .int .i64 0], [(0, 397), (1, 398), (2, 3)]⟩ := by kernel_rfl
theorem ty_400 : aty Tryz.prog 400 = ⟨.struct, 3, 56, [.slice none 0 0, .slice none 0 0, .int .i64 0], [(0, 397), (1, 398), (2, 3)]⟩ := by kernel_rfl
theorem ty_401 : aty Tryz.prog 401 = ⟨.int .u16, 1, 2, [.int .u16 0], []⟩ := by kernel_rfl
theorem ty_402 : aty Tryz.prog 402 = ⟨.struct, 3, 6, [.int .u16 0, .int .u16 0, .int .u16 0], [(0, 401), (1, 401), (2, 401)]⟩ := by kernel_rfl
theorem ty_403 : aty Tryz.prog 403 = ⟨.struct, 3, 6, [.int .u16 0, .int .u16 0, .int .u16 0], [(0, 401), (1, 401), (2, 401)]⟩ := by kernel_rfl
theorem ty_405 : aty Tryz.prog 405 = ⟨.struct, 3, 12, [.int .u32 0, .int .u32 0, .int .u32 0], [(0, 350), (1, 350), (2, 350)]⟩ := by kernel_rfl
theorem ty_406 : aty Tryz.prog 406 = ⟨.struct, 3, 12, [.int .u32 0, .int .u32 0, .int .u32 0], [(0, 350), (1, 350), (2, 350)]⟩ := by kernel_rfl
theorem ty_408 : aty Tryz.prog 408 = ⟨.ptr 5, 1, 8, [.pointer none], []⟩ := by kernel_rfl
theorem ty_409 : aty Tryz.prog 409 = ⟨.ptr 411, 1, 8, [.pointer none], []⟩ := by kernel_rfl
theorem ty_410 : aty Tryz.prog 410 = ⟨.struct, 1, 16, [.string ⟨#[]⟩], [(0, 9)]⟩ := by kernel_rfl
theorem ty_411 : aty Tryz.prog 411 = ⟨.struct, 1, 16, [.string ⟨#[]⟩], [(0, 9)]⟩ := by kernel_rfl
theorem ty_412 : aty Tryz.prog 412 = ⟨.ptr 403, 1, 8, [.pointer none], []⟩ := by kernel_rfl
theorem ty_413 : aty Tryz.prog 413 = ⟨.ptr 406, 1, 8, [.pointer none], []⟩ := by kernel_rfl
theorem ty_427 : aty Tryz.prog 427 = ⟨.struct, 10, 136, [.string ⟨#[]⟩, .int .i64 0, .int .i64 0, .int .i64 0, .string ⟨#[]⟩, .slice none 0 0, .int .i64 0, .int .i64 0, .string ⟨#[]⟩, .slice none 0 0], [(0, 9), (1, 3), (2, 270), (6, 270)]⟩ := by kernel_rfl
theorem ty_428 : aty Tryz.prog 428 = ⟨.struct, 10, 136, [.string ⟨#[]⟩, .int .i64 0, .int .i64 0, .int .i64 0, .string ⟨#[]⟩, .slice none 0 0, .int .i64 0, .int .i64 0, .string ⟨#[]⟩, .slice none 0 0], [(0, 9), (1, 3), (2, 270), (6, 270)]⟩ := by kernel_rfl
def tyb := And.intro ty_2 (And.intro ty_3 (And.intro ty_4 (And.intro ty_5 (And.intro ty_9 (And.intro ty_12 (And.intro ty_13 (And.intro ty_21 (And.intro ty_22 (And.intro ty_23 (And.intro ty_24 (And.intro ty_25 (And.intro ty_26 (And.intro ty_29 (And.intro ty_30 (And.intro ty_31 (And.intro ty_32 (And.intro ty_33 (And.intro ty_38 (And.intro ty_39 (And.intro ty_40 (And.intro ty_57 (And.intro ty_59 (And.intro ty_60 (And.intro ty_63 (And.intro ty_64 (And.intro ty_68 (And.intro ty_69 (And.intro ty_72 (And.intro ty_73 (And.intro ty_74 (And.intro ty_75 (And.intro ty_76 (And.intro ty_77 (And.intro ty_78 (And.intro ty_79 (And.intro ty_80 (And.intro ty_81 (And.intro ty_82 (And.intro ty_83 (And.intro ty_87 (And.intro ty_88 (And.intro ty_89 (And.intro ty_90 (And.intro ty_91 (And.intro ty_92 (And.intro ty_102 (And.intro ty_103 (And.intro ty_113 (And.intro ty_114 (And.intro ty_118 (And.intro ty_123 (And.intro ty_124 (And.intro ty_125 (And.intro ty_126 (And.intro ty_127 (And.intro ty_128 (And.intro ty_129 (And.intro ty_130 (And.intro ty_131 (And.intro ty_132 (And.intro ty_133 (And.intro ty_134 (And.intro ty_135 (And.intro ty_137 (And.intro ty_138 (And.intro ty_155 (And.intro ty_165 (And.intro ty_167 (And.intro ty_168 (And.intro ty_185 (And.intro ty_186 (And.intro ty_196 (And.intro ty_197 (And.intro ty_204 (And.intro ty_230 (And.intro ty_231 (And.intro ty_240 (And.intro ty_245 (And.intro ty_246 (And.intro ty_247 (And.intro ty_265 (And.intro ty_268 (And.intro ty_269 (And.intro ty_270 (And.intro ty_271 (And.intro ty_272 (And.intro ty_273 (And.intro ty_274 (And.intro ty_277 (And.intro ty_279 (And.intro ty_280 (And.intro ty_285 (And.intro ty_287 (And.intro ty_293 (And.intro ty_294 (And.intro ty_296 (And.intro ty_297 (And.intro ty_306 (And.intro ty_307 (And.intro ty_308 (And.intro ty_309 (And.intro ty_310 (And.intro ty_313 (And.intro ty_335 (And.intro ty_340 (And.intro ty_343 (And.intro ty_344 (And.intro ty_345 (And.intro ty_347 (And.intro ty_348 (And.intro ty_349 (And.intro ty_350 (And.intro ty_355 (And.intro ty_356 (And.intro ty_363 (And.intro ty_381 (And.intro ty_384 (And.intro ty_387 (And.intro ty_388 (And.intro ty_389 (And.intro ty_391 (And.intro ty_394 (And.intro ty_395 (And.intro ty_397 (And.intro ty_398 (And.intro ty_399 (And.intro ty_400 (And.intro ty_401 (And.intro ty_402 (And.intro ty_403 (And.intro ty_405 (And.intro ty_406 (And.intro ty_408 (And.intro ty_409 (And.intro ty_410 (And.intro ty_411 (And.intro ty_412 (And.intro ty_413 (And.intro ty_427 (ty_428))))))))))))))))))))))))))))))))))))))))))))))))))))))))))))))))))))))))))))))))))))))))))))))))))))))))))))))))))))))))))))))))))))))))))))
def sx := And.intro sx0 (And.intro sx1 (And.intro sx2 (And.intro sx3 (And.intro sx4 (And.intro sx5 (And.intro sx6 (And.intro sx7 (And.intro sx8 (tyb)))))))))
end Go.Proofs.YtcoflmckbcnlpaaGreatDoor
namespace Go.Proofs.YtcoflmckbcnlpaaGreatDoor
open Go.RowKit
set_option maxRecDepth 100000
section
variable {P : Program} {C : World → Prop} {M : Nat → Prop} {w : World}
theorem rep0_ex : ∀ {vs args : List Value}, RepL phi0 M w (vs.map .ex) args → args = vs
  | [], _, h => by simpa [RepL] using h
  | v :: vs, _, h => by
    simp only [List.map_cons, RepL] at h
    obtain ⟨x, xs, rfl, h1, h2⟩ := h
    simp only [Rep] at h1
    rw [h1.1, rep0_ex h2]
theorem con_ex {f : Nat} {vs : List Value} {r : Value} (hc : Callable P f) (hr : r.oneCell' = true) (h : ∀ w, C w → Calls P f vs.toArray w fun e w' => e = .returned r ∧ Below w.heap.size w w') : Con P C f (vs.map .ex) (.val (.ex r)) := by
  refine ⟨hc, fun M w args _ hw ha => ?_⟩
  rw [rep0_ex ha]
  refine (h w hw).mono ?_
  rintro e w' ⟨rfl, hb⟩
  exact ⟨r, rfl, ex_rep r hr, hb⟩
def texts (l : List ByteArray) : List (List AV) := l.map fun s => [.ex (.string s)]
theorem texts_vs {sz : Nat} : ∀ {l : List ByteArray} {vs : List Value}, RepLL phi0 M w sz (texts l) vs → vs = l.map .string
  | [], _, h => by simpa [texts, RepLL] using h
  | s :: l, _, h => by
    simp only [texts, List.map_cons, RepLL] at h
    obtain ⟨x, y, rfl, _, _, h1, h2⟩ := h
    have h3 := texts_vs (l := l) h2
    simp only [RepL] at h1
    obtain ⟨v, vs', rfl, h4, rfl⟩ := h1
    simp only [Rep] at h4
    rw [h3, h4.1]
    rfl
theorem con_texts {f : Nat} {l : List ByteArray} {r : Value} (hc : Callable P f) (hr : r.oneCell' = true) (h : ∀ A c w, C w → Reads w w.heap.size 1 A l.length (l.map .string) → c ≤ maxLen → l.length ≤ c → True → Calls P f #[.slice A l.length c] w fun e w' => e = .returned r ∧ Below w.heap.size w w') : Con P C f [.sl (texts l)] (.val (.ex r)) := by
  refine ⟨hc, fun M w args _ hw ha => ?_⟩
  simp only [RepL] at ha
  obtain ⟨v, vs', rfl, h1, rfl⟩ := ha
  simp only [Rep] at h1
  have hl : (texts l).length = l.length := by simp [texts]
  obtain ⟨A, c, rfl, h2, h3, h4, h5⟩ := h1
  rw [hl] at h2 ⊢
  refine (h A c w hw ⟨by simp, fun hn => ?_⟩ h3 h2 h4).mono ?_
  · obtain ⟨b, o, sz, vs, rfl, _, h6, h7, h8⟩ := h5 (by intro e; rw [e] at hl; simp at hl; omega)
    rw [texts_vs h8] at h7
    exact ⟨b, o, rfl, h6, h7⟩
  · rintro e w' ⟨rfl, hb⟩
    exact ⟨r, rfl, ex_rep r hr, hb⟩
end
end Go.Proofs.YtcoflmckbcnlpaaGreatDoor
namespace Go.Proofs.YtcoflmckbcnlpaaGreatDoor
open Go.RowKit
set_option maxRecDepth 100000
section
variable {P : Program} {C : World → Prop} {hp : Nat → Option Row1} {k : AV → Eff → Prop} {id : Nat}
theorem call_mv {f b e : Nat} {β : Row1} {es es' : List (List AV)} {rest us : List AV} {ids : List Nat} (h1 : hp b = some β) (h0 : β = ⟨e, es, true⟩) (h2 : (es.all (·.all p0)) = true) (h3 : cls hp rest = some (us, ids)) (h4 : b ∉ ids) (h5 : (es'.all (·.all noSl0)) = true) (hz : es.map (·.map z0) = es) (h6 : ConM P C f e es us es') (h7 : k (.own id) (.grow b ⟨e, es', true⟩)) : opCall P C id f hp (.own b :: rest) k :=
  call_moved (by rw [h1, h0]) h2 h3 h4 h5 (by rw [hz]; exact h6) h7
end
end Go.Proofs.YtcoflmckbcnlpaaGreatDoor
namespace Go.Proofs.YtcoflmckbcnlpaaGreatDoor
open Go.RowKit
set_option maxRecDepth 100000
theorem aretc_2 {P : Program} {σ : AS} {kk : AV → Prop} {rs : Array ResultVar} {x ty t b j : Nat} {β : Row1} {e : List AV} {v : AV} {us : List AV} {ids : List Nat} (hrs : rs = #[.cell x ty, .tmp t]) (h1 : σ.tm x = .pt b j 0) (h2 : σ.hp b = some β) (h3 : β.es[j]? = some e)
    (hag : (aty P ty).isAgg = true) (hsz : (aty P ty).sz = e.length) (h0 : 0 < e.length) (hv : σ.tm t = v) (h5 : cls σ.hp [.agg e, v] = some (us, ids)) (hk : kk (.tup us)) : aret P rs σ kk := by
  subst hrs
  rw [aret_2]
  simp only [ares1, h1]
  refine ⟨β, e, h2, h3, ?_⟩
  unfold ldCell
  rw [if_pos hag, hsz, List.drop_zero, List.take_length]
  refine ⟨⟨h0, by omega⟩, ?_⟩
  show opt (cls σ.hp [.agg e, σ.tm t]) _
  rw [hv, h5]
  exact hk
theorem aretc_1 {P : Program} {σ : AS} {kk : AV → Prop} {rs : Array ResultVar} {x ty b j : Nat} {β : Row1} {e : List AV} {u : AV} {ids : List Nat} (hrs : rs = #[.cell x ty]) (h1 : σ.tm x = .pt b j 0) (h2 : σ.hp b = some β) (h3 : β.es[j]? = some e)
    (hag : (aty P ty).isAgg = true) (hsz : (aty P ty).sz = e.length) (h0 : 0 < e.length) (h5 : cl σ.hp (.agg e) = some (u, ids)) (hk : kk u) : aret P rs σ kk := by
  subst hrs
  rw [aret_1]
  simp only [ares1, h1]
  refine ⟨β, e, h2, h3, ?_⟩
  unfold ldCell
  rw [if_pos hag, hsz, List.drop_zero, List.take_length]
  refine ⟨⟨h0, by omega⟩, ?_⟩
  show opt (cl σ.hp (.agg e)) _
  rw [h5]
  exact hk
end Go.Proofs.YtcoflmckbcnlpaaGreatDoor
namespace Go.Proofs.YtcoflmckbcnlpaaGreatDoor
open Go.RowKit
set_option maxRecDepth 100000
theorem byS {p : Prop} (h : p := by (first | rfl | (simp (disch := omega) only [sx, natS, ↓reduceIte, Nat.reduceAdd, Nat.reduceEqDiff, Nat.reduceLeDiff, *]))) : p := h
theorem byQ {p : Prop} (h : p := by (simp (disch := omega) only [sx, natS, ↓reduceIte, Nat.reduceAdd, Nat.reduceEqDiff, Nat.reduceLeDiff, *]; (try rfl))) : p := h
theorem wS {p q : Prop} (h : q) (e : p = q := by (simp (disch := omega) only [sx, Value.oneCell', ↓reduceIte, Nat.reduceAdd, Nat.reduceMul, Nat.reduceEqDiff, Nat.reduceLT, Nat.reduceLeDiff, Int.reduceToNat, Int.reduceEq, Int.reduceLT, Int.reduceLE, Int.reduceNe, *]; rfl)) : p := e.mpr h
theorem byA {p : Prop} (h : p := by first | (simp only [sxd, z0, p0, Nat.reduceEqDiff, ↓reduceIte]; (try rfl); done) | (simp (disch := omega) only [sxd, z0, p0, sx, Value.oneCell', ↓reduceIte, Nat.reduceAdd, Nat.reduceMul, Nat.reduceEqDiff, Nat.reduceLT, Nat.reduceLeDiff, Int.reduceToNat, Int.reduceEq, Int.reduceLT, Int.reduceLE, Int.reduceNe, *]; (try rfl); done)) : p := h
theorem stS {a b : Prop} (h : b) (ha : a := by first | omega | assumption | exact setOk_ge (by decide +kernel) | exact setOk_late (by decide +kernel) (by (simp (disch := omega) only [sx, Value.oneCell', ↓reduceIte, Nat.reduceAdd, Nat.reduceMul, Nat.reduceEqDiff, Nat.reduceLT, Nat.reduceLeDiff, Int.reduceToNat, Int.reduceEq, Int.reduceLT, Int.reduceLE, Int.reduceNe, natS, *]; rfl)) (by refine wkR_row ?_; repeat' (first | exact trivial | refine wkL_c (by first | rfl | decide +kernel) ?_)) | exact Nat.le_of_ble_eq_true (by kernel_rfl)) : a ∧ b := ⟨ha, h⟩
section
variable {P : Program} {C : World → Prop} {id ty : Nat} {ev : Operand → AV} {hp : Nat → Option Row1} {k : AV → Eff → Prop} {Q : Exit → AS → Prop}
theorem cv {f : Nat} {args us : List AV} {ids : List Nat} {r : AV} (h2 : Con P C f us (.val r)) (h3 : k r (.frz (if noSl r then [] else ids))) (h1 : cls hp args = some (us, ids) := by exact byA) : opCall P C id f hp args k := call_val h1 h2 h3
theorem cf {f : Nat} {args us : List AV} {e : Nat} {es : List (List AV)} (h2 : Con P C f us (.fresh e es)) (h3 : k (.own id) (.new ⟨e, es, true⟩)) (h1 : cls hp args = some (us, []) := by exact byA) : opCall P C id f hp args k := call_fresh h1 h2 h3
theorem vdr {i : Nat} {l : List Oper} {tm : Nat → AV} {nx : Nat} (h : aops P C l.toArray (drawn l.toArray) nx 0 l (kend Q (nx + l.length)) ⟨tm, hp, nx⟩) (hb : orderOk l.toArray (drawn l.toArray) = true := by kernel_rfl) : awp P C (.region i l.toArray true) Q ⟨tm, hp, nx⟩ := vdraws hb h
theorem vbS {t len : Nat} {parts : List (Nat × Operand)} (h : opt (rowsP (aty P (elemOf (aty P t).k)).sz 0 (parts.map fun x => (x.1, ev x.2))) (krow (elemOf (aty P t).k) id k))
    (ht : (aty P t).k = .slice (elemOf (aty P t).k) := by simp only [tyb, elemOf_s])
    (h1 : ((aty P (elemOf (aty P t).k)).zero.length = (aty P (elemOf (aty P t).k)).sz ∧ 0 < (aty P (elemOf (aty P t).k)).sz ∧ len * (aty P (elemOf (aty P t).k)).sz ≤ 16777216 ∧ (aty P (elemOf (aty P t).k)).zero.all (·.oneCell') = true) ∧ parts.length = len := by simp only [tyb, sxb, Value.oneCell', Nat.reduceAdd, Nat.reduceMul, Nat.reduceLeDiff, Nat.reduceLT]) :
    aval P C id (.buildSlice t len parts.toArray) ty ev hp k := vbuildS ht h1 h
theorem rc1 {σ : AS} {kk : AV → Prop} {rs : Array ResultVar} {x ty b j : Nat} {β : Row1} {e : List AV} {u : AV} {ids : List Nat} (hrs : rs = #[.cell x ty]) (hk : kk u) (h1 : σ.tm x = .pt b j 0 := by exact byQ) (h2 : σ.hp b = some β := by exact byQ) (h3 : β.es[j]? = some e := by exact byS)
    (hag : (aty P ty).isAgg = true := by simp only [ATy.isAgg, tyb]) (hsz : (aty P ty).sz = e.length := by simp only [tyb]; rfl) (h0 : 0 < e.length := by exact Nat.zero_lt_succ _) (h5 : cl σ.hp (.agg e) = some (u, ids) := by first | (simp only [sxd, z0, p0, Nat.reduceEqDiff, ↓reduceIte]; rfl) | (simp only [sxd, z0, p0, Nat.reduceEqDiff, ↓reduceIte, *]; rfl) | (simp (disch := omega) only [sxd, z0, p0, Nat.reduceEqDiff, ↓reduceIte, sx, Value.oneCell', Nat.reduceAdd, Nat.reduceMul, Nat.reduceLT, Nat.reduceLeDiff, Int.reduceToNat, Int.reduceEq, Int.reduceLT, Int.reduceLE, Int.reduceNe, *]; rfl)) : aret P rs σ kk :=
  aretc_1 hrs h1 h2 h3 hag hsz h0 h5 hk
theorem rc3 {σ : AS} {kk : AV → Prop} {rs : Array ResultVar} {x ty t b j : Nat} {β : Row1} {e : List AV} {v : AV} {us : List AV} {ids : List Nat} (hrs : rs = #[.cell x ty, .tmp t]) (hk : kk (.tup us)) (h1 : σ.tm x = .pt b j 0 := by exact byQ) (h2 : σ.hp b = some β := by exact byQ) (h3 : β.es[j]? = some e := by exact byS)
    (hag : (aty P ty).isAgg = true := by simp only [ATy.isAgg, tyb]) (hsz : (aty P ty).sz = e.length := by simp only [tyb]; rfl) (h0 : 0 < e.length := by exact Nat.zero_lt_succ _) (hv : σ.tm t = v := by exact byQ) (h5 : cls σ.hp [.agg e, v] = some (us, ids) := by first | (simp only [sxd, z0, p0, Nat.reduceEqDiff, ↓reduceIte]; rfl) | (simp only [sxd, z0, p0, Nat.reduceEqDiff, ↓reduceIte, *]; rfl) | (simp (disch := omega) only [sxd, z0, p0, Nat.reduceEqDiff, ↓reduceIte, sx, Value.oneCell', Nat.reduceAdd, Nat.reduceMul, Nat.reduceLT, Nat.reduceLeDiff, Int.reduceToNat, Int.reduceEq, Int.reduceLT, Int.reduceLE, Int.reduceNe, *]; rfl)) : aret P rs σ kk :=
  aretc_2 hrs h1 h2 h3 hag hsz h0 hv h5 hk
theorem aretc_3 {σ : AS} {kk : AV → Prop} {rs : Array ResultVar} {x ty t t2 b j : Nat} {β : Row1} {e : List AV} {v v2 : AV} {us : List AV} {ids : List Nat} (hrs : rs = #[.cell x ty, .tmp t, .tmp t2]) (h1 : σ.tm x = .pt b j 0) (h2 : σ.hp b = some β) (h3 : β.es[j]? = some e)
    (hag : (aty P ty).isAgg = true) (hsz : (aty P ty).sz = e.length) (h0 : 0 < e.length) (hv : σ.tm t = v) (hv2 : σ.tm t2 = v2) (h5 : cls σ.hp [.agg e, v, v2] = some (us, ids)) (hk : kk (.tup us)) : aret P rs σ kk := by
  subst hrs
  rw [aret_3]
  simp only [ares1, h1]
  refine ⟨β, e, h2, h3, ?_⟩
  unfold ldCell
  rw [if_pos hag, hsz, List.drop_zero, List.take_length]
  refine ⟨⟨h0, by omega⟩, ?_⟩
  show opt (cls σ.hp [.agg e, σ.tm t, σ.tm t2]) _
  rw [hv, hv2, h5]
  exact hk
theorem rc4 {σ : AS} {kk : AV → Prop} {rs : Array ResultVar} {x ty t t2 b j : Nat} {β : Row1} {e : List AV} {v v2 : AV} {us : List AV} {ids : List Nat} (hrs : rs = #[.cell x ty, .tmp t, .tmp t2]) (hk : kk (.tup us)) (h1 : σ.tm x = .pt b j 0 := by exact byQ) (h2 : σ.hp b = some β := by exact byQ) (h3 : β.es[j]? = some e := by exact byS)
    (hag : (aty P ty).isAgg = true := by simp only [ATy.isAgg, tyb]) (hsz : (aty P ty).sz = e.length := by simp only [tyb]; rfl) (h0 : 0 < e.length := by exact Nat.zero_lt_succ _) (hv : σ.tm t = v := by exact byQ) (hv2 : σ.tm t2 = v2 := by exact byQ) (h5 : cls σ.hp [.agg e, v, v2] = some (us, ids) := by first | (simp only [sxd, z0, p0, Nat.reduceEqDiff, ↓reduceIte]; rfl) | (simp only [sxd, z0, p0, Nat.reduceEqDiff, ↓reduceIte, *]; rfl) | (simp (disch := omega) only [sxd, z0, p0, Nat.reduceEqDiff, ↓reduceIte, sx, Value.oneCell', Nat.reduceAdd, Nat.reduceMul, Nat.reduceLT, Nat.reduceLeDiff, Int.reduceToNat, Int.reduceEq, Int.reduceLT, Int.reduceLE, Int.reduceNe, *]; rfl)) : aret P rs σ kk :=
  aretc_3 hrs h1 h2 h3 hag hsz h0 hv hv2 h5 hk
theorem awp_label {σ : AS} {l : Nat} (h : Q .normal σ) : awp P C (.label l) Q σ := h
theorem awp_scope {σ : AS} {c : Code} (h : awp P C c (noGo Q) σ) : awp P C (.scope c) Q σ := h
theorem stq {a b : Prop} (h : b) (e : b → a := by first | exact awp_seq | exact awp_block) : a := e h
theorem stp {a b : Prop} (h : b) (e : b → a := by first | exact vplain | exact fun h => vdr h | exact fun h => vbS h | exact vcond | exact awp_exit | exact awp_skip | exact awp_label | exact awp_scope | exact fun h => stS h) : a := e h
end
end Go.Proofs.YtcoflmckbcnlpaaGreatDoor