/-
  What the program's types are, one row a type. Conditions: none.
-/
import Derived.Test.YtapghdjbffmifaaDoorBun
import Derived.Test.YtapghdjbffmifaaDoorRows
namespace Go.Proofs.YtapghdjbffmifaaDoor
open Go.RowKit
set_option maxRecDepth 100000
set_option linter.defProp false

theorem ty_2 : aty Tryd.prog 2 = ⟨.int .i64, 1, 8, [.int .i64 0], []⟩ := by kernel_rfl
theorem ty_3 : aty Tryd.prog 3 = ⟨.int .i64, 1, 8, [.int .i64 0], []⟩ := by kernel_rfl
theorem ty_4 : aty Tryd.prog 4 = ⟨.bool, 1, 1, [.bool false], []⟩ := by kernel_rfl
theorem ty_5 : aty Tryd.prog 5 = ⟨.int .u8, 1, 1, [.int .u8 0], []⟩ := by kernel_rfl
theorem ty_9 : aty Tryd.prog 9 = ⟨.str, 1, 16, [.string ⟨#[]⟩], []⟩ := by kernel_rfl
theorem ty_12 : aty Tryd.prog 12 = ⟨.int .u64, 1, 8, [.int .u64 0], []⟩ := by kernel_rfl
theorem ty_13 : aty Tryd.prog 13 = ⟨.struct, 2, 24, [.string ⟨#[]⟩, .int .u64 0], [(0, 9), (1, 12)]⟩ := by kernel_rfl
theorem ty_21 : aty Tryd.prog 21 = ⟨.int .i32, 1, 4, [.int .i32 0], []⟩ := by kernel_rfl
theorem ty_22 : aty Tryd.prog 22 = ⟨.slice 25, 1, 24, [.slice none 0 0], []⟩ := by kernel_rfl
theorem ty_23 : aty Tryd.prog 23 = ⟨.int .u64, 1, 8, [.int .u64 0], []⟩ := by kernel_rfl
theorem ty_24 : aty Tryd.prog 24 = ⟨.struct, 5, 64, [.int .i64 0, .string ⟨#[]⟩, .string ⟨#[]⟩, .string ⟨#[]⟩, .int .u64 0], [(0, 3), (1, 9), (2, 9), (3, 9), (4, 23)]⟩ := by kernel_rfl
theorem ty_25 : aty Tryd.prog 25 = ⟨.struct, 5, 64, [.int .i64 0, .string ⟨#[]⟩, .string ⟨#[]⟩, .string ⟨#[]⟩, .int .u64 0], [(0, 3), (1, 9), (2, 9), (3, 9), (4, 23)]⟩ := by kernel_rfl
theorem ty_28 : aty Tryd.prog 28 = ⟨.int .i64, 1, 8, [.int .i64 0], []⟩ := by kernel_rfl
theorem ty_37 : aty Tryd.prog 37 = ⟨.slice 64, 1, 24, [.slice none 0 0], []⟩ := by kernel_rfl
theorem ty_38 : aty Tryd.prog 38 = ⟨.struct, 7, 96, [.int .u64 0, .int .i64 0, .string ⟨#[]⟩, .string ⟨#[]⟩, .string ⟨#[]⟩, .int .u64 0, .slice none 0 0], [(0, 23), (1, 25), (6, 37)]⟩ := by kernel_rfl
theorem ty_39 : aty Tryd.prog 39 = ⟨.struct, 7, 96, [.int .u64 0, .int .i64 0, .string ⟨#[]⟩, .string ⟨#[]⟩, .string ⟨#[]⟩, .int .u64 0, .slice none 0 0], [(0, 23), (1, 25), (6, 37)]⟩ := by kernel_rfl
theorem ty_54 : aty Tryd.prog 54 = ⟨.slice 5, 1, 24, [.slice none 0 0], []⟩ := by kernel_rfl
theorem ty_63 : aty Tryd.prog 63 = ⟨.struct, 2, 16, [.int .u64 0, .bool false], [(0, 23), (1, 4)]⟩ := by kernel_rfl
theorem ty_64 : aty Tryd.prog 64 = ⟨.struct, 2, 16, [.int .u64 0, .bool false], [(0, 23), (1, 4)]⟩ := by kernel_rfl
theorem ty_68 : aty Tryd.prog 68 = ⟨.slice 23, 1, 24, [.slice none 0 0], []⟩ := by kernel_rfl
theorem ty_72 : aty Tryd.prog 72 = ⟨.iface, 1, 16, [.nilIface], []⟩ := by kernel_rfl
theorem ty_82 : aty Tryd.prog 82 = ⟨.slice 9, 1, 24, [.slice none 0 0], []⟩ := by kernel_rfl
theorem ty_86 : aty Tryd.prog 86 = ⟨.int .i64, 1, 8, [.int .i64 0], []⟩ := by kernel_rfl
theorem ty_88 : aty Tryd.prog 88 = ⟨.int .u64, 1, 8, [.int .u64 0], []⟩ := by kernel_rfl
theorem ty_89 : aty Tryd.prog 89 = ⟨.ptr 100, 1, 8, [.pointer none], []⟩ := by kernel_rfl
theorem ty_92 : aty Tryd.prog 92 = ⟨.arr 24 5, 24, 24, [.int .u8 0, .int .u8 0, .int .u8 0, .int .u8 0, .int .u8 0, .int .u8 0, .int .u8 0, .int .u8 0, .int .u8 0, .int .u8 0, .int .u8 0, .int .u8 0, .int .u8 0, .int .u8 0, .int .u8 0, .int .u8 0, .int .u8 0, .int .u8 0, .int .u8 0, .int .u8 0, .int .u8 0, .int .u8 0, .int .u8 0, .int .u8 0], []⟩ := by kernel_rfl
theorem ty_99 : aty Tryd.prog 99 = ⟨.struct, 3, 48, [.string ⟨#[]⟩, .string ⟨#[]⟩, .nilIface], [(0, 9), (1, 9), (2, 72)]⟩ := by kernel_rfl
theorem ty_100 : aty Tryd.prog 100 = ⟨.struct, 3, 48, [.string ⟨#[]⟩, .string ⟨#[]⟩, .nilIface], [(0, 9), (1, 9), (2, 72)]⟩ := by kernel_rfl
theorem ty_104 : aty Tryd.prog 104 = ⟨.arr 20 23, 20, 160, [.int .u64 0, .int .u64 0, .int .u64 0, .int .u64 0, .int .u64 0, .int .u64 0, .int .u64 0, .int .u64 0, .int .u64 0, .int .u64 0, .int .u64 0, .int .u64 0, .int .u64 0, .int .u64 0, .int .u64 0, .int .u64 0, .int .u64 0, .int .u64 0, .int .u64 0, .int .u64 0], []⟩ := by kernel_rfl
theorem ty_105 : aty Tryd.prog 105 = ⟨.int .u32, 1, 4, [.int .u32 0], []⟩ := by kernel_rfl
theorem ty_109 : aty Tryd.prog 109 = ⟨.ptr 5, 1, 8, [.pointer none], []⟩ := by kernel_rfl
theorem ty_110 : aty Tryd.prog 110 = ⟨.ptr 112, 1, 8, [.pointer none], []⟩ := by kernel_rfl
theorem ty_111 : aty Tryd.prog 111 = ⟨.struct, 1, 16, [.string ⟨#[]⟩], [(0, 9)]⟩ := by kernel_rfl
theorem ty_112 : aty Tryd.prog 112 = ⟨.struct, 1, 16, [.string ⟨#[]⟩], [(0, 9)]⟩ := by kernel_rfl
theorem ty_114 : aty Tryd.prog 114 = ⟨.arr 32 5, 32, 32, [.int .u8 0, .int .u8 0, .int .u8 0, .int .u8 0, .int .u8 0, .int .u8 0, .int .u8 0, .int .u8 0, .int .u8 0, .int .u8 0, .int .u8 0, .int .u8 0, .int .u8 0, .int .u8 0, .int .u8 0, .int .u8 0, .int .u8 0, .int .u8 0, .int .u8 0, .int .u8 0, .int .u8 0, .int .u8 0, .int .u8 0, .int .u8 0, .int .u8 0, .int .u8 0, .int .u8 0, .int .u8 0, .int .u8 0, .int .u8 0, .int .u8 0, .int .u8 0], []⟩ := by kernel_rfl
def tyb := And.intro ty_2 (And.intro ty_3 (And.intro ty_4 (And.intro ty_5 (And.intro ty_9 (And.intro ty_12 (And.intro ty_13 (And.intro ty_21 (And.intro ty_22 (And.intro ty_23 (And.intro ty_24 (And.intro ty_25 (And.intro ty_28 (And.intro ty_37 (And.intro ty_38 (And.intro ty_39 (And.intro ty_54 (And.intro ty_63 (And.intro ty_64 (And.intro ty_68 (And.intro ty_72 (And.intro ty_82 (And.intro ty_86 (And.intro ty_88 (And.intro ty_89 (And.intro ty_92 (And.intro ty_99 (And.intro ty_100 (And.intro ty_104 (And.intro ty_105 (And.intro ty_109 (And.intro ty_110 (And.intro ty_111 (And.intro ty_112 (ty_114))))))))))))))))))))))))))))))))))
end Go.Proofs.YtapghdjbffmifaaDoor
