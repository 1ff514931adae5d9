/-
  What the program's types are, one row a type. Conditions: none.
-/
import Derived.Test.YtaphbajfjmhpnaaDoorBun
import Derived.Test.YtaphbajfjmhpnaaDoorRows
namespace Go.Proofs.YtaphbajfjmhpnaaDoor
open Go.RowKit
set_option maxRecDepth 100000
set_option linter.defProp false

theorem ty_2 : aty Tryd.prog 2 = ⟨.int .i64, 1, 8, [.int .i64 0], []⟩ := by kernel_rfl
theorem ty_3 : aty Tryd.prog 3 = ⟨.int .i64, 1, 8, [.int .i64 0], []⟩ := by kernel_rfl
theorem ty_4 : aty Tryd.prog 4 = ⟨.bool, 1, 1, [.bool false], []⟩ := by kernel_rfl
theorem ty_5 : aty Tryd.prog 5 = ⟨.int .u8, 1, 1, [.int .u8 0], []⟩ := by kernel_rfl
theorem ty_9 : aty Tryd.prog 9 = ⟨.str, 1, 16, [.string ⟨#[]⟩], []⟩ := by kernel_rfl
theorem ty_12 : aty Tryd.prog 12 = ⟨.int .u64, 1, 8, [.int .u64 0], []⟩ := by kernel_rfl
theorem ty_13 : aty Tryd.prog 13 = ⟨.struct, 2, 24, [.string ⟨#[]⟩, .int .u64 0], [(0, 9), (1, 12)]⟩ := by kernel_rfl
theorem ty_21 : aty Tryd.prog 21 = ⟨.int .i32, 1, 4, [.int .i32 0], []⟩ := by kernel_rfl
theorem ty_22 : aty Tryd.prog 22 = ⟨.slice 3, 1, 24, [.slice none 0 0], []⟩ := by kernel_rfl
theorem ty_24 : aty Tryd.prog 24 = ⟨.int .i64, 1, 8, [.int .i64 0], []⟩ := by kernel_rfl
theorem ty_37 : aty Tryd.prog 37 = ⟨.slice 40, 1, 24, [.slice none 0 0], []⟩ := by kernel_rfl
theorem ty_39 : aty Tryd.prog 39 = ⟨.struct, 2, 24, [.string ⟨#[]⟩, .int .i64 0], [(0, 9), (1, 3)]⟩ := by kernel_rfl
theorem ty_40 : aty Tryd.prog 40 = ⟨.struct, 2, 24, [.string ⟨#[]⟩, .int .i64 0], [(0, 9), (1, 3)]⟩ := by kernel_rfl
theorem ty_51 : aty Tryd.prog 51 = ⟨.iface, 1, 16, [.nilIface], []⟩ := by kernel_rfl
theorem ty_60 : aty Tryd.prog 60 = ⟨.ptr 56, 1, 8, [.pointer none], []⟩ := by kernel_rfl
theorem ty_67 : aty Tryd.prog 67 = ⟨.int .i64, 1, 8, [.int .i64 0], []⟩ := by kernel_rfl
theorem ty_68 : aty Tryd.prog 68 = ⟨.slice 5, 1, 24, [.slice none 0 0], []⟩ := by kernel_rfl
theorem ty_71 : aty Tryd.prog 71 = ⟨.ptr 86, 1, 8, [.pointer none], []⟩ := by kernel_rfl
theorem ty_74 : aty Tryd.prog 74 = ⟨.arr 24 5, 24, 24, [.int .u8 0, .int .u8 0, .int .u8 0, .int .u8 0, .int .u8 0, .int .u8 0, .int .u8 0, .int .u8 0, .int .u8 0, .int .u8 0, .int .u8 0, .int .u8 0, .int .u8 0, .int .u8 0, .int .u8 0, .int .u8 0, .int .u8 0, .int .u8 0, .int .u8 0, .int .u8 0, .int .u8 0, .int .u8 0, .int .u8 0, .int .u8 0], []⟩ := by kernel_rfl
theorem ty_75 : aty Tryd.prog 75 = ⟨.int .u64, 1, 8, [.int .u64 0], []⟩ := by kernel_rfl
theorem ty_83 : aty Tryd.prog 83 = ⟨.int .u64, 1, 8, [.int .u64 0], []⟩ := by kernel_rfl
theorem ty_85 : aty Tryd.prog 85 = ⟨.struct, 3, 48, [.string ⟨#[]⟩, .string ⟨#[]⟩, .nilIface], [(0, 9), (1, 9), (2, 51)]⟩ := by kernel_rfl
theorem ty_86 : aty Tryd.prog 86 = ⟨.struct, 3, 48, [.string ⟨#[]⟩, .string ⟨#[]⟩, .nilIface], [(0, 9), (1, 9), (2, 51)]⟩ := by kernel_rfl
theorem ty_89 : aty Tryd.prog 89 = ⟨.arr 20 75, 20, 160, [.int .u64 0, .int .u64 0, .int .u64 0, .int .u64 0, .int .u64 0, .int .u64 0, .int .u64 0, .int .u64 0, .int .u64 0, .int .u64 0, .int .u64 0, .int .u64 0, .int .u64 0, .int .u64 0, .int .u64 0, .int .u64 0, .int .u64 0, .int .u64 0, .int .u64 0, .int .u64 0], []⟩ := by kernel_rfl
theorem ty_90 : aty Tryd.prog 90 = ⟨.int .u32, 1, 4, [.int .u32 0], []⟩ := by kernel_rfl
theorem ty_94 : aty Tryd.prog 94 = ⟨.struct, 2, 2, [.int .u8 0, .int .u8 0], [(0, 5), (1, 5)]⟩ := by kernel_rfl
theorem ty_95 : aty Tryd.prog 95 = ⟨.struct, 2, 2, [.int .u8 0, .int .u8 0], [(0, 5), (1, 5)]⟩ := by kernel_rfl
theorem ty_96 : aty Tryd.prog 96 = ⟨.arr 16 95, 32, 32, [.int .u8 0, .int .u8 0, .int .u8 0, .int .u8 0, .int .u8 0, .int .u8 0, .int .u8 0, .int .u8 0, .int .u8 0, .int .u8 0, .int .u8 0, .int .u8 0, .int .u8 0, .int .u8 0, .int .u8 0, .int .u8 0, .int .u8 0, .int .u8 0, .int .u8 0, .int .u8 0, .int .u8 0, .int .u8 0, .int .u8 0, .int .u8 0, .int .u8 0, .int .u8 0, .int .u8 0, .int .u8 0, .int .u8 0, .int .u8 0, .int .u8 0, .int .u8 0], []⟩ := by kernel_rfl
theorem ty_101 : aty Tryd.prog 101 = ⟨.ptr 5, 1, 8, [.pointer none], []⟩ := by kernel_rfl
theorem ty_102 : aty Tryd.prog 102 = ⟨.ptr 104, 1, 8, [.pointer none], []⟩ := by kernel_rfl
theorem ty_103 : aty Tryd.prog 103 = ⟨.struct, 1, 16, [.string ⟨#[]⟩], [(0, 9)]⟩ := by kernel_rfl
theorem ty_104 : aty Tryd.prog 104 = ⟨.struct, 1, 16, [.string ⟨#[]⟩], [(0, 9)]⟩ := by kernel_rfl
theorem ty_106 : aty Tryd.prog 106 = ⟨.arr 32 5, 32, 32, [.int .u8 0, .int .u8 0, .int .u8 0, .int .u8 0, .int .u8 0, .int .u8 0, .int .u8 0, .int .u8 0, .int .u8 0, .int .u8 0, .int .u8 0, .int .u8 0, .int .u8 0, .int .u8 0, .int .u8 0, .int .u8 0, .int .u8 0, .int .u8 0, .int .u8 0, .int .u8 0, .int .u8 0, .int .u8 0, .int .u8 0, .int .u8 0, .int .u8 0, .int .u8 0, .int .u8 0, .int .u8 0, .int .u8 0, .int .u8 0, .int .u8 0, .int .u8 0], []⟩ := by kernel_rfl
def tyb := And.intro ty_2 (And.intro ty_3 (And.intro ty_4 (And.intro ty_5 (And.intro ty_9 (And.intro ty_12 (And.intro ty_13 (And.intro ty_21 (And.intro ty_22 (And.intro ty_24 (And.intro ty_37 (And.intro ty_39 (And.intro ty_40 (And.intro ty_51 (And.intro ty_60 (And.intro ty_67 (And.intro ty_68 (And.intro ty_71 (And.intro ty_74 (And.intro ty_75 (And.intro ty_83 (And.intro ty_85 (And.intro ty_86 (And.intro ty_89 (And.intro ty_90 (And.intro ty_94 (And.intro ty_95 (And.intro ty_96 (And.intro ty_101 (And.intro ty_102 (And.intro ty_103 (And.intro ty_104 (ty_106))))))))))))))))))))))))))))))))
end Go.Proofs.YtaphbajfjmhpnaaDoor
