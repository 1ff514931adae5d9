/-
  What the program's types are, one row a type. Conditions: none.
-/
import Derived.Test.YtfpknhhhjgdjbaaDoorBun
import Derived.Test.YtfpknhhhjgdjbaaDoorRows
namespace Go.Proofs.YtfpknhhhjgdjbaaDoor
open Go.RowKit
set_option maxRecDepth 100000
set_option linter.defProp false

theorem ty_2 : aty Tryd.prog 2 = ⟨.int .i64, 1, 8, [.int .i64 0], []⟩ := by kernel_rfl
theorem ty_3 : aty Tryd.prog 3 = ⟨.int .i64, 1, 8, [.int .i64 0], []⟩ := by kernel_rfl
theorem ty_4 : aty Tryd.prog 4 = ⟨.bool, 1, 1, [.bool false], []⟩ := by kernel_rfl
theorem ty_5 : aty Tryd.prog 5 = ⟨.int .u8, 1, 1, [.int .u8 0], []⟩ := by kernel_rfl
theorem ty_9 : aty Tryd.prog 9 = ⟨.str, 1, 16, [.string ⟨#[]⟩], []⟩ := by kernel_rfl
theorem ty_12 : aty Tryd.prog 12 = ⟨.int .u64, 1, 8, [.int .u64 0], []⟩ := by kernel_rfl
theorem ty_13 : aty Tryd.prog 13 = ⟨.struct, 2, 24, [.string ⟨#[]⟩, .int .u64 0], [(0, 9), (1, 12)]⟩ := by kernel_rfl
theorem ty_21 : aty Tryd.prog 21 = ⟨.int .i32, 1, 4, [.int .i32 0], []⟩ := by kernel_rfl
theorem ty_22 : aty Tryd.prog 22 = ⟨.slice 9, 1, 24, [.slice none 0 0], []⟩ := by kernel_rfl
theorem ty_27 : aty Tryd.prog 27 = ⟨.int .i64, 1, 8, [.int .i64 0], []⟩ := by kernel_rfl
theorem ty_36 : aty Tryd.prog 36 = ⟨.slice 3, 1, 24, [.slice none 0 0], []⟩ := by kernel_rfl
theorem ty_43 : aty Tryd.prog 43 = ⟨.struct, 7, 72, [.string ⟨#[]⟩, .int .i64 0, .int .i64 0, .int .i64 0, .int .i64 0, .int .i64 0, .string ⟨#[]⟩], [(0, 9), (1, 3), (2, 3), (3, 3), (4, 3), (5, 3), (6, 9)]⟩ := by kernel_rfl
theorem ty_44 : aty Tryd.prog 44 = ⟨.struct, 7, 72, [.string ⟨#[]⟩, .int .i64 0, .int .i64 0, .int .i64 0, .int .i64 0, .int .i64 0, .string ⟨#[]⟩], [(0, 9), (1, 3), (2, 3), (3, 3), (4, 3), (5, 3), (6, 9)]⟩ := by kernel_rfl
theorem ty_51 : aty Tryd.prog 51 = ⟨.slice 44, 1, 24, [.slice none 0 0], []⟩ := by kernel_rfl
theorem ty_62 : aty Tryd.prog 62 = ⟨.slice 5, 1, 24, [.slice none 0 0], []⟩ := by kernel_rfl
theorem ty_69 : aty Tryd.prog 69 = ⟨.iface, 1, 16, [.nilIface], []⟩ := by kernel_rfl
theorem ty_72 : aty Tryd.prog 72 = ⟨.int .u64, 1, 8, [.int .u64 0], []⟩ := by kernel_rfl
theorem ty_74 : aty Tryd.prog 74 = ⟨.arr 5 3, 5, 40, [.int .i64 0, .int .i64 0, .int .i64 0, .int .i64 0, .int .i64 0], []⟩ := by kernel_rfl
theorem ty_83 : aty Tryd.prog 83 = ⟨.other, 1, 8, [.map none], []⟩ := by kernel_rfl
theorem ty_91 : aty Tryd.prog 91 = ⟨.int .i64, 1, 8, [.int .i64 0], []⟩ := by kernel_rfl
theorem ty_94 : aty Tryd.prog 94 = ⟨.ptr 108, 1, 8, [.pointer none], []⟩ := by kernel_rfl
theorem ty_98 : aty Tryd.prog 98 = ⟨.arr 24 5, 24, 24, [.int .u8 0, .int .u8 0, .int .u8 0, .int .u8 0, .int .u8 0, .int .u8 0, .int .u8 0, .int .u8 0, .int .u8 0, .int .u8 0, .int .u8 0, .int .u8 0, .int .u8 0, .int .u8 0, .int .u8 0, .int .u8 0, .int .u8 0, .int .u8 0, .int .u8 0, .int .u8 0, .int .u8 0, .int .u8 0, .int .u8 0, .int .u8 0], []⟩ := by kernel_rfl
theorem ty_105 : aty Tryd.prog 105 = ⟨.int .u64, 1, 8, [.int .u64 0], []⟩ := by kernel_rfl
theorem ty_107 : aty Tryd.prog 107 = ⟨.struct, 3, 48, [.string ⟨#[]⟩, .string ⟨#[]⟩, .nilIface], [(0, 9), (1, 9), (2, 69)]⟩ := by kernel_rfl
theorem ty_108 : aty Tryd.prog 108 = ⟨.struct, 3, 48, [.string ⟨#[]⟩, .string ⟨#[]⟩, .nilIface], [(0, 9), (1, 9), (2, 69)]⟩ := by kernel_rfl
theorem ty_113 : aty Tryd.prog 113 = ⟨.arr 20 72, 20, 160, [.int .u64 0, .int .u64 0, .int .u64 0, .int .u64 0, .int .u64 0, .int .u64 0, .int .u64 0, .int .u64 0, .int .u64 0, .int .u64 0, .int .u64 0, .int .u64 0, .int .u64 0, .int .u64 0, .int .u64 0, .int .u64 0, .int .u64 0, .int .u64 0, .int .u64 0, .int .u64 0], []⟩ := by kernel_rfl
theorem ty_114 : aty Tryd.prog 114 = ⟨.int .u32, 1, 4, [.int .u32 0], []⟩ := by kernel_rfl
theorem ty_118 : aty Tryd.prog 118 = ⟨.ptr 5, 1, 8, [.pointer none], []⟩ := by kernel_rfl
theorem ty_119 : aty Tryd.prog 119 = ⟨.ptr 121, 1, 8, [.pointer none], []⟩ := by kernel_rfl
theorem ty_120 : aty Tryd.prog 120 = ⟨.struct, 1, 16, [.string ⟨#[]⟩], [(0, 9)]⟩ := by kernel_rfl
theorem ty_121 : aty Tryd.prog 121 = ⟨.struct, 1, 16, [.string ⟨#[]⟩], [(0, 9)]⟩ := by kernel_rfl
theorem ty_123 : aty Tryd.prog 123 = ⟨.arr 32 5, 32, 32, [.int .u8 0, .int .u8 0, .int .u8 0, .int .u8 0, .int .u8 0, .int .u8 0, .int .u8 0, .int .u8 0, .int .u8 0, .int .u8 0, .int .u8 0, .int .u8 0, .int .u8 0, .int .u8 0, .int .u8 0, .int .u8 0, .int .u8 0, .int .u8 0, .int .u8 0, .int .u8 0, .int .u8 0, .int .u8 0, .int .u8 0, .int .u8 0, .int .u8 0, .int .u8 0, .int .u8 0, .int .u8 0, .int .u8 0, .int .u8 0, .int .u8 0, .int .u8 0], []⟩ := by kernel_rfl
def tyb := And.intro ty_2 (And.intro ty_3 (And.intro ty_4 (And.intro ty_5 (And.intro ty_9 (And.intro ty_12 (And.intro ty_13 (And.intro ty_21 (And.intro ty_22 (And.intro ty_27 (And.intro ty_36 (And.intro ty_43 (And.intro ty_44 (And.intro ty_51 (And.intro ty_62 (And.intro ty_69 (And.intro ty_72 (And.intro ty_74 (And.intro ty_83 (And.intro ty_91 (And.intro ty_94 (And.intro ty_98 (And.intro ty_105 (And.intro ty_107 (And.intro ty_108 (And.intro ty_113 (And.intro ty_114 (And.intro ty_118 (And.intro ty_119 (And.intro ty_120 (And.intro ty_121 (ty_123)))))))))))))))))))))))))))))))
end Go.Proofs.YtfpknhhhjgdjbaaDoor
