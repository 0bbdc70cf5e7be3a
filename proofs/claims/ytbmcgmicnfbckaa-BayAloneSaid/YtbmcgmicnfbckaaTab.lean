/- Written by program (wip/tab.py): what the program's table of types says, each line held by the kernel. -/
import Derived.Test.YtbmcgmicnfbckaaRows
import Derived.Test.YtbmcgmicnfbckaaSw
namespace Go.Proofs.Ytbmcgmicnfbckaa
open Go.Sl
def tab : TabData where
  flds := [(7, [0, 1, 2, 3]), (8, [0, 1, 2, 3]), (13, [0, 1]), (14, [0, 1]), (18, [0]), (19, [0]), (34, [0, 1, 2, 3, 4]), (35, [0, 1, 2, 3, 4]), (39, [0, 1, 2]), (40, [0, 1, 2]), (68, [0, 1, 2, 3]), (69, [0, 1, 2, 3]), (71, [0, 1, 2]), (72, [0, 1, 2]), (73, [0, 1, 2]), (74, [0, 1, 2]), (82, [0, 1, 2, 3]), (83, [0, 1, 2, 3]), (87, [0, 1]), (88, [0, 1]), (103, [0, 1, 2, 3]), (104, [0, 1, 2, 3]), (115, [0, 1, 2, 3, 4, 5, 6, 7, 8, 9, 10]), (116, [0, 1, 2, 3, 4, 5, 6, 7, 8, 9, 10])]
  leaf := [(1, ()), (2, ()), (3, ()), (4, ()), (5, ()), (6, ()), (9, ()), (10, ()), (11, ()), (12, ()), (15, ()), (16, ()), (17, ()), (20, ()), (21, ()), (22, ()), (23, ()), (24, ()), (25, ()), (26, ()), (28, ()), (29, ()), (30, ()), (31, ()), (32, ()), (33, ()), (37, ()), (38, ()), (41, ()), (42, ()), (43, ()), (44, ()), (45, ()), (46, ()), (47, ()), (48, ()), (49, ()), (50, ()), (52, ()), (53, ()), (54, ()), (55, ()), (56, ()), (57, ()), (58, ()), (59, ()), (60, ()), (61, ()), (62, ()), (63, ()), (64, ()), (65, ()), (66, ()), (67, ()), (70, ()), (76, ()), (77, ()), (78, ()), (79, ()), (80, ()), (81, ()), (89, ()), (90, ()), (91, ()), (92, ()), (93, ()), (94, ()), (95, ()), (96, ()), (97, ()), (98, ()), (99, ()), (100, ()), (101, ()), (102, ()), (108, ()), (109, ()), (110, ()), (111, ()), (112, ()), (113, ()), (114, ()), (117, ())]
  aggs := [(7, 4), (8, 4), (13, 2), (14, 2), (18, 1), (19, 1), (34, 5), (35, 5), (39, 3), (40, 3), (68, 6), (69, 6), (71, 3), (72, 3), (73, 3), (74, 3), (82, 4), (83, 4), (84, 128), (85, 128), (87, 129), (88, 129), (103, 4), (104, 4), (105, 0), (106, 0), (107, 0), (115, 11), (116, 11)]
  sls := [(22, 35), (32, 5), (33, 56), (43, 3), (49, 50), (56, 4), (67, 74), (79, 85), (81, 88)]
  ints := [(2, .i64), (3, .i64), (5, .u8), (6, .u8), (12, .u64), (21, .i32), (25, .u16), (26, .u16), (108, .u32), (109, .u8), (110, .u8), (113, .i32), (114, .i32)]
  descs := [(4, 1, 0), (9, 2, 0), (10, 2, 0), (11, 2, 0), (15, 0, 104), (16, 0, 107), (17, 0, 116), (24, 0, 69), (50, 0, 83), (70, 0, 72), (78, 0, 74), (100, 0, 3), (101, 0, 40), (112, 0, 5)]
theorem tab_ok : tab.ok Try.prog = true := by kernel_rfl
theorem st_22 : SliceT Try.prog 22 35 (.agg #[.int .i64 0, .int .i64 0, .int .i64 0, .slice none 0 0, .slice none 0 0]) 5 72 := ⟨by kernel_rfl, by kernel_rfl, rfl, by simp [Value.cells, Value.oneCell']⟩
theorem st_32 : SliceT Try.prog 32 5 (.int .u8 0) 1 1 := ⟨by kernel_rfl, by kernel_rfl, rfl, by simp [Value.cells, Value.oneCell']⟩
theorem st_33 : SliceT Try.prog 33 56 (.slice none 0 0) 1 24 := ⟨by kernel_rfl, by kernel_rfl, rfl, by simp [Value.cells, Value.oneCell']⟩
theorem st_43 : SliceT Try.prog 43 3 (.int .i64 0) 1 8 := ⟨by kernel_rfl, by kernel_rfl, rfl, by simp [Value.cells, Value.oneCell']⟩
theorem st_49 : SliceT Try.prog 49 50 (.pointer none) 1 8 := ⟨by kernel_rfl, by kernel_rfl, rfl, by simp [Value.cells, Value.oneCell']⟩
theorem st_56 : SliceT Try.prog 56 4 (.bool false) 1 1 := ⟨by kernel_rfl, by kernel_rfl, rfl, by simp [Value.cells, Value.oneCell']⟩
theorem st_67 : SliceT Try.prog 67 74 (.agg #[.pointer none, .pointer none, .pointer none]) 3 24 := ⟨by kernel_rfl, by kernel_rfl, rfl, by simp [Value.cells, Value.oneCell']⟩
theorem sb_7 : StructT Try.prog 7 [.int .i64 0, .int .i64 0, .bool false, .int .u8 0] [(0, 1), (1, 1), (2, 1), (3, 1)] := ⟨fun w => by simp, _, Try.underlying7, fun w => by simp⟩
theorem sb_8 : StructT Try.prog 8 [.int .i64 0, .int .i64 0, .bool false, .int .u8 0] [(0, 1), (1, 1), (2, 1), (3, 1)] := ⟨fun w => by simp, _, Try.underlying8, fun w => by simp⟩
theorem sb_18 : StructT Try.prog 18 [.pointer none] [(0, 1)] := ⟨fun w => by simp, _, Try.underlying18, fun w => by simp⟩
theorem sb_19 : StructT Try.prog 19 [.pointer none] [(0, 1)] := ⟨fun w => by simp, _, Try.underlying19, fun w => by simp⟩
theorem sb_34 : StructT Try.prog 34 [.int .i64 0, .int .i64 0, .int .i64 0, .slice none 0 0, .slice none 0 0] [(0, 1), (1, 1), (2, 1), (3, 1), (4, 1)] := ⟨fun w => by simp, _, Try.underlying34, fun w => by simp⟩
theorem sb_35 : StructT Try.prog 35 [.int .i64 0, .int .i64 0, .int .i64 0, .slice none 0 0, .slice none 0 0] [(0, 1), (1, 1), (2, 1), (3, 1), (4, 1)] := ⟨fun w => by simp, _, Try.underlying35, fun w => by simp⟩
theorem sb_39 : StructT Try.prog 39 [.int .i64 0, .int .i64 0, .int .i64 0] [(0, 1), (1, 1), (2, 1)] := ⟨fun w => by simp, _, Try.underlying39, fun w => by simp⟩
theorem sb_40 : StructT Try.prog 40 [.int .i64 0, .int .i64 0, .int .i64 0] [(0, 1), (1, 1), (2, 1)] := ⟨fun w => by simp, _, Try.underlying40, fun w => by simp⟩
theorem sb_68 : StructT Try.prog 68 [.slice none 0 0, .bool false, .int .i64 0, .int .i64 0, .int .i64 0, .int .i64 0] [(0, 1), (1, 1), (2, 1), (3, 3)] := ⟨fun w => by simp, _, Try.underlying68, fun w => by simp⟩
theorem sb_69 : StructT Try.prog 69 [.slice none 0 0, .bool false, .int .i64 0, .int .i64 0, .int .i64 0, .int .i64 0] [(0, 1), (1, 1), (2, 1), (3, 3)] := ⟨fun w => by simp, _, Try.underlying69, fun w => by simp⟩
theorem sb_71 : StructT Try.prog 71 [.pointer none, .bool false, .int .i64 0] [(0, 1), (1, 1), (2, 1)] := ⟨fun w => by simp, _, Try.underlying71, fun w => by simp⟩
theorem sb_72 : StructT Try.prog 72 [.pointer none, .bool false, .int .i64 0] [(0, 1), (1, 1), (2, 1)] := ⟨fun w => by simp, _, Try.underlying72, fun w => by simp⟩
theorem sb_73 : StructT Try.prog 73 [.pointer none, .pointer none, .pointer none] [(0, 1), (1, 1), (2, 1)] := ⟨fun w => by simp, _, Try.underlying73, fun w => by simp⟩
theorem sb_74 : StructT Try.prog 74 [.pointer none, .pointer none, .pointer none] [(0, 1), (1, 1), (2, 1)] := ⟨fun w => by simp, _, Try.underlying74, fun w => by simp⟩
theorem sb_82 : StructT Try.prog 82 [.slice none 0 0, .slice none 0 0, .map none, .bool false] [(0, 1), (1, 1), (2, 1), (3, 1)] := ⟨fun w => by simp, _, Try.underlying82, fun w => by simp⟩
theorem sb_83 : StructT Try.prog 83 [.slice none 0 0, .slice none 0 0, .map none, .bool false] [(0, 1), (1, 1), (2, 1), (3, 1)] := ⟨fun w => by simp, _, Try.underlying83, fun w => by simp⟩
theorem sb_106 : StructT Try.prog 106 [] [(0, 0)] := ⟨fun w => by simp, _, Try.underlying106, fun w => by simp⟩
theorem sb_107 : StructT Try.prog 107 [] [(0, 0)] := ⟨fun w => by simp, _, Try.underlying107, fun w => by simp⟩
theorem ze_2 : ∀ w, (zeroValue 2).run Try.prog w = .ok (.int .i64 0) w := fun w => by simp
theorem ze_3 : ∀ w, (zeroValue 3).run Try.prog w = .ok (.int .i64 0) w := fun w => by simp
theorem ze_4 : ∀ w, (zeroValue 4).run Try.prog w = .ok (.bool false) w := fun w => by simp
theorem ze_5 : ∀ w, (zeroValue 5).run Try.prog w = .ok (.int .u8 0) w := fun w => by simp
theorem ze_6 : ∀ w, (zeroValue 6).run Try.prog w = .ok (.int .u8 0) w := fun w => by simp
theorem ze_12 : ∀ w, (zeroValue 12).run Try.prog w = .ok (.int .u64 0) w := fun w => by simp
theorem ze_15 : ∀ w, (zeroValue 15).run Try.prog w = .ok (.pointer none) w := fun w => by simp
theorem ze_16 : ∀ w, (zeroValue 16).run Try.prog w = .ok (.pointer none) w := fun w => by simp
theorem ze_17 : ∀ w, (zeroValue 17).run Try.prog w = .ok (.pointer none) w := fun w => by simp
theorem ze_21 : ∀ w, (zeroValue 21).run Try.prog w = .ok (.int .i32 0) w := fun w => by simp
theorem ze_22 : ∀ w, (zeroValue 22).run Try.prog w = .ok (.slice none 0 0) w := fun w => by simp
theorem ze_24 : ∀ w, (zeroValue 24).run Try.prog w = .ok (.pointer none) w := fun w => by simp
theorem ze_25 : ∀ w, (zeroValue 25).run Try.prog w = .ok (.int .u16 0) w := fun w => by simp
theorem ze_26 : ∀ w, (zeroValue 26).run Try.prog w = .ok (.int .u16 0) w := fun w => by simp
theorem ze_32 : ∀ w, (zeroValue 32).run Try.prog w = .ok (.slice none 0 0) w := fun w => by simp
theorem ze_33 : ∀ w, (zeroValue 33).run Try.prog w = .ok (.slice none 0 0) w := fun w => by simp
theorem ze_43 : ∀ w, (zeroValue 43).run Try.prog w = .ok (.slice none 0 0) w := fun w => by simp
theorem ze_49 : ∀ w, (zeroValue 49).run Try.prog w = .ok (.slice none 0 0) w := fun w => by simp
theorem ze_50 : ∀ w, (zeroValue 50).run Try.prog w = .ok (.pointer none) w := fun w => by simp
theorem ze_56 : ∀ w, (zeroValue 56).run Try.prog w = .ok (.slice none 0 0) w := fun w => by simp
theorem ze_67 : ∀ w, (zeroValue 67).run Try.prog w = .ok (.slice none 0 0) w := fun w => by simp
theorem ze_70 : ∀ w, (zeroValue 70).run Try.prog w = .ok (.pointer none) w := fun w => by simp
theorem ze_78 : ∀ w, (zeroValue 78).run Try.prog w = .ok (.pointer none) w := fun w => by simp
theorem ze_79 : ∀ w, (zeroValue 79).run Try.prog w = .ok (.slice none 0 0) w := fun w => by simp
theorem ze_80 : ∀ w, (zeroValue 80).run Try.prog w = .ok (.map none) w := fun w => by simp
theorem ze_81 : ∀ w, (zeroValue 81).run Try.prog w = .ok (.slice none 0 0) w := fun w => by simp
theorem ze_100 : ∀ w, (zeroValue 100).run Try.prog w = .ok (.pointer none) w := fun w => by simp
theorem ze_101 : ∀ w, (zeroValue 101).run Try.prog w = .ok (.pointer none) w := fun w => by simp
theorem ze_108 : ∀ w, (zeroValue 108).run Try.prog w = .ok (.int .u32 0) w := fun w => by simp
theorem ze_109 : ∀ w, (zeroValue 109).run Try.prog w = .ok (.int .u8 0) w := fun w => by simp
theorem ze_110 : ∀ w, (zeroValue 110).run Try.prog w = .ok (.int .u8 0) w := fun w => by simp
theorem ze_112 : ∀ w, (zeroValue 112).run Try.prog w = .ok (.pointer none) w := fun w => by simp
theorem ze_113 : ∀ w, (zeroValue 113).run Try.prog w = .ok (.int .i32 0) w := fun w => by simp
theorem ze_114 : ∀ w, (zeroValue 114).run Try.prog w = .ok (.int .i32 0) w := fun w => by simp
theorem ze_117 : ∀ w, (zeroValue 117).run Try.prog w = .ok (.pointer none) w := fun w => by simp
end Go.Proofs.Ytbmcgmicnfbckaa
